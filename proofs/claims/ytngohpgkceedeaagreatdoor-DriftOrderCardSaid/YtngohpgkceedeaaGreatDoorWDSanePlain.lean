/-
  DriftOrder, plain: points with different times; their swaps; points put in one after the other; points later. The fixed examples of the drift laws: what is known of them.
-/
import Derived.Test.YtngohpgkceedeaaGreatDoorWDPlain3
import Derived.Test.YtngohpgkceedeaaGreatDoorWR12Made
set_option linter.unusedSimpArgs false
set_option linter.unusedVariables false
namespace Go.Proofs.YtngohpgkceedeaaGreatDoor
open Go Go.RowKit Go.Lib

/-- Of the first points, those whose time is not that of the one before. -/
def ded (l : List Pt) : Nat → List Pt
  | 0 => []
  | k + 1 => if k = 0 ∨ (ptD l (k - 1)).t ≠ (ptD l k).t then ded l k ++ [ptD l k] else ded l k
structure DedOk (l : List Pt) (k : Nat) (d : List Pt) : Prop where
  lt : d.Pairwise fun a b => a.t < b.t
  mem : ∀ p, p ∈ d → p ∈ l
  le : ∀ p, p ∈ d → 0 < k ∧ p.t ≤ (ptD l (k - 1)).t
  len : d.length ≤ k
theorem ded_ok {l : List Pt} (hs : l.Pairwise fun a b => a.t ≤ b.t) : ∀ k, k ≤ l.length → DedOk l k (ded l k)
  | 0, _ => ⟨by simp [ded], by simp [ded], by simp [ded], by simp [ded]⟩
  | k + 1, hk => by
    have ih := ded_ok hs k (by omega)
    have hm : ptD l k ∈ l := ptD_mem (by omega)
    have up : ∀ p, p ∈ ded l k → p.t ≤ (ptD l k).t := fun p hp => by
      obtain ⟨h0, h1⟩ := ih.le p hp
      exact Nat.le_trans h1 (sorted_mono hs (by omega) (by omega))
    unfold ded
    split
    · rename_i hc
      refine ⟨List.pairwise_append.2 ⟨ih.lt, by simp, fun a ha b hb => ?_⟩, fun p hp => ?_, fun p hp => ⟨by omega, ?_⟩, by rw [List.length_append]; have := ih.len; simp; omega⟩
      · simp only [List.mem_singleton] at hb
        subst hb
        obtain ⟨h0, h1⟩ := ih.le a ha
        have h2 := sorted_mono hs (show k - 1 ≤ k by omega) (show k < l.length by omega)
        rcases hc with hc | hc
        · omega
        · omega
      · rcases List.mem_append.1 hp with hp | hp
        · exact ih.mem p hp
        · simp only [List.mem_singleton] at hp; rw [hp]; exact hm
      · rw [show k + 1 - 1 = k by omega]
        rcases List.mem_append.1 hp with hp | hp
        · exact up p hp
        · simp only [List.mem_singleton] at hp; rw [hp]; exact Nat.le_refl _
    · exact ⟨ih.lt, ih.mem, fun p hp => ⟨by omega, by rw [show k + 1 - 1 = k by omega]; exact up p hp⟩, by have := ih.len; omega⟩
/-- Two points change places. -/
def swp (m : List Pt) (a b : Nat) : List Pt := (m.set a (ptD m b)).set b (ptD m a)
theorem ptD_get {m : List Pt} {a : Nat} (ha : a < m.length) : ptD m a = m[a] := by unfold ptD; rw [List.getD_eq_getElem?_getD, List.getElem?_eq_getElem ha]; rfl
theorem swp_perm {m : List Pt} {a b : Nat} (ha : a < m.length) (hb : b < m.length) : (swp m a b).Perm m := by
  unfold swp
  rw [ptD_get ha, ptD_get hb]
  exact List.set_set_perm ha hb
/-- The points' order after the first changes of places. -/
def ordL (f : Nat → Nat → Int) (d : List Pt) (n : Nat) : Nat → List Pt
  | 0 => d
  | k + 1 => swp (ordL f d n k) (pk (f k 0) n).toNat (pk ((f k 0).tdiv 8) n).toNat
theorem ordL_perm (f : Nat → Nat → Int) (d : List Pt) (n : Nat) (hn : d.length = n) (h0 : 0 < n) : ∀ k, (ordL f d n k).Perm d
  | 0 => List.Perm.refl _
  | k + 1 => by
    have ih := ordL_perm f d n hn h0 k
    have hl : (ordL f d n k).length = n := by rw [ih.length_eq, hn]
    have a1 := pk_nonneg (f k 0) (n := (n : Int)) (by omega); have a2 := pk_lt (f k 0) (n := (n : Int)) (by omega)
    have b1 := pk_nonneg ((f k 0).tdiv 8) (n := (n : Int)) (by omega); have b2 := pk_lt ((f k 0).tdiv 8) (n := (n : Int)) (by omega)
    exact (swp_perm (by rw [hl]; omega) (by rw [hl]; omega)).trans ih
/-- The first points, put in one after the other. -/
def addL (m : List Pt) (k : Nat) : List Pt := insAll [] (m.take k)
theorem addL_succ {m : List Pt} {k : Nat} (hk : k < m.length) : ins (addL m k) (ptD m k) = addL m (k + 1) := by
  unfold addL
  rw [isLo_take (r := 0) (t := 0) hk]
  unfold insAll
  rw [List.foldl_append]
  rfl
theorem addL_perm (m : List Pt) (k : Nat) : (addL m k).Perm (m.take k) := by
  have := insAll_perm [] (m.take k)
  unfold addL
  simpa using this
theorem addL_ok {r : Rat} {d m : List Pt} (ho : Hist.Ok ⟨r, d⟩) (hm : m.Perm d) (k : Nat) : Hist.Ok ⟨r, addL m k⟩ := by
  have hp := addL_perm m k
  have mem : ∀ p, p ∈ addL m k → p ∈ d := fun p h => hm.mem_iff.1 (List.mem_of_mem_take (hp.mem_iff.1 h))
  exact ⟨ho.rate, ho.rdig, by
    have h1 := hp.length_eq
    have h2 := hm.length_eq
    have h3 := ho.few
    have h4 : (m.take k).length ≤ m.length := by rw [List.length_take]; omega
    show (addL m k).length ≤ 64
    simp only at h3
    omega, fun p h => ho.times p (mem p h), fun p h => ho.ivs p (mem p h), insAll_sorted (by simp) _⟩
theorem addL_len {m : List Pt} {k : Nat} (hk : k ≤ m.length) : (addL m k).length = k := by
  rw [(addL_perm m k).length_eq, List.length_take]; omega
theorem addL_all {d m : List Pt} (hm : m.Perm d) (hl : d.Pairwise fun a b => a.t < b.t) : addL m m.length = d := by
  unfold addL
  rw [List.take_length]
  exact insAll_any hm.symm hl
theorem later_succ {d : List Pt} {k j : Nat} (hj : j < d.length) : laterPts k (d.take (j + 1)) = laterPts k (d.take j) ++ [⟨(ptD d j).t + k, (ptD d j).iv⟩] := by
  rw [isLo_take (r := 0) (t := 0) hj]
  unfold laterPts
  rw [List.map_append]
  rfl
theorem later_ok {r : Rat} {d : List Pt} {k : Nat} (ho : Hist.Ok ⟨r, d⟩) (hk : k ≤ 1000) (ht : ∀ p, p ∈ d → p.t ≤ 100) : Hist.Ok ⟨r, laterPts k d⟩ := by
  have key : ∀ q, q ∈ laterPts k d → ∃ p, p ∈ d ∧ (⟨p.t + k, p.iv⟩ : Pt) = q := fun q hq => List.mem_map.1 hq
  refine ⟨ho.rate, ho.rdig, ?_, fun q hq => ?_, fun q hq => ?_, ?_⟩
  · have := ho.few; simpa [laterPts] using this
  · obtain ⟨p, hp, rfl⟩ := key q hq
    have := ht p hp
    show p.t + k ≤ 1000000
    omega
  · obtain ⟨p, hp, rfl⟩ := key q hq
    exact ho.ivs p hp
  · unfold laterPts
    rw [List.pairwise_map]
    exact ho.sorted.imp fun h => by simp only; omega
theorem ded_hist {r : Rat} {l d : List Pt} {k : Nat} (h : HMade ⟨r, l⟩) (hd : DedOk l k d) (hk : k ≤ 8) : Hist.Ok ⟨r, d⟩ ∧ (∀ p, p ∈ d → p.t ≤ 100) ∧ ∀ p, p ∈ d → IDig 2 p.iv :=
  ⟨⟨h.ok.rate, h.ok.rdig, by have := hd.len; simp only; omega, fun p hp => h.ok.times p (hd.mem p hp), fun p hp => h.ok.ivs p (hd.mem p hp), hd.lt.imp fun h => Nat.le_of_lt h⟩, fun p hp => h.times p (hd.mem p hp), fun p hp => h.ivs p (hd.mem p hp)⟩
end Go.Proofs.YtngohpgkceedeaaGreatDoor
namespace Go.Proofs.YtngohpgkceedeaaGreatDoor
open Go Go.Lib

def sR : Rat := Rat.divInt 1 10
def sa : Pt := ⟨0, ⟨Rat.divInt 5 1, Rat.divInt 6 1⟩⟩
def sb : Pt := ⟨20, ⟨Rat.divInt 6 1, Rat.divInt 8 1⟩⟩
def sc : Pt := ⟨10, ⟨Rat.divInt 8 1, Rat.divInt 9 1⟩⟩
def so1 : Iv := ⟨Rat.divInt 5 1, Rat.divInt 7 1⟩
def so2 : Iv := ⟨Rat.divInt 5 1, Rat.divInt 9 1⟩
theorem s_rate : 0 ≤ sR := by unfold sR; decide +kernel
theorem s_rdig : QDig 40 sR := QDig.mono (j := 2) (by unfold QDig Dig sR; decide +kernel) (by omega)
theorem s_iv : ∀ p, p ∈ [sa, sb, sc] → p.t ≤ 1000000 ∧ p.iv.Ok ∧ IDig 40 p.iv := by
  intro p hp
  simp only [List.mem_cons, List.not_mem_nil, or_false] at hp
  rcases hp with rfl | rfl | rfl
  · exact ⟨by decide, by unfold Iv.Ok sa; decide +kernel, QDig.mono (j := 1) (by unfold QDig Dig sa; decide +kernel) (by omega), QDig.mono (j := 1) (by unfold QDig Dig sa; decide +kernel) (by omega)⟩
  · exact ⟨by decide, by unfold Iv.Ok sb; decide +kernel, QDig.mono (j := 1) (by unfold QDig Dig sb; decide +kernel) (by omega), QDig.mono (j := 1) (by unfold QDig Dig sb; decide +kernel) (by omega)⟩
  · exact ⟨by decide, by unfold Iv.Ok sc; decide +kernel, QDig.mono (j := 1) (by unfold QDig Dig sc; decide +kernel) (by omega), QDig.mono (j := 1) (by unfold QDig Dig sc; decide +kernel) (by omega)⟩
theorem s_ok : Hist.Ok ⟨sR, [sa, sb]⟩ where
  rate := s_rate
  rdig := s_rdig
  few := by simp
  times := fun p hp => (s_iv p (by simp at hp ⊢; rcases hp with h | h <;> simp [h])).1
  ivs := fun p hp => (s_iv p (by simp at hp ⊢; rcases hp with h | h <;> simp [h])).2
  sorted := by simp [sa, sb]
theorem s_ins : ins [sa, sb] sc = [sa, sc, sb] := by simp [ins, upTo, sa, sb, sc]
theorem s_ok2 : Hist.Ok ⟨sR, [sa, sc, sb]⟩ where
  rate := s_rate
  rdig := s_rdig
  few := by simp
  times := fun p hp => (s_iv p (by simp at hp ⊢; rcases hp with h | h | h <;> simp [h])).1
  ivs := fun p hp => (s_iv p (by simp at hp ⊢; rcases hp with h | h | h <;> simp [h])).2
  sorted := by simp [sa, sb, sc]
theorem s_free : Free ⟨sR, [sa, sb]⟩ := by
  refine (two_free s_rate (s_iv sa (by simp)).2.1 (s_iv sb (by simp)).2.1).2 ?_
  decide +kernel
theorem s_bad : ¬ Free ⟨sR, [sa, sc, sb]⟩ := fun h => h sa (by simp) sc (by simp) (by decide +kernel)
theorem s_cons : cons ⟨sR, [sa, sc, sb]⟩ = [(0, 1)] := by decide +kernel
theorem s_knows {t : Nat} {o : Iv} (h : (o.lo = lowAt sR t sa ∨ o.lo = lowAt sR t sb) ∧ lowAt sR t sa ≤ o.lo ∧ lowAt sR t sb ≤ o.lo ∧ (o.hi = highAt sR t sa ∨ o.hi = highAt sR t sb) ∧ o.hi ≤ highAt sR t sa ∧ o.hi ≤ highAt sR t sb) : Knows ⟨sR, [sa, sb]⟩ t o := by
  obtain ⟨h1, h2, h3, h4, h5, h6⟩ := h
  refine ⟨⟨?_, ?_⟩, ⟨?_, ?_⟩⟩
  · rcases h1 with h | h
    · exact ⟨sa, by simp, h⟩
    · exact ⟨sb, by simp, h⟩
  · intro p hp; simp at hp; rcases hp with rfl | rfl
    · exact h2
    · exact h3
  · rcases h4 with h | h
    · exact ⟨sa, by simp, h⟩
    · exact ⟨sb, by simp, h⟩
  · intro p hp; simp at hp; rcases hp with rfl | rfl
    · exact h5
    · exact h6
theorem s_knows1 : Knows ⟨sR, [sa, sb]⟩ 10 so1 := s_knows (by decide +kernel)
theorem s_knows2 : Knows ⟨sR, [sa, sb]⟩ 30 so2 := s_knows (by decide +kernel)
theorem s_knows20 : Knows ⟨sR, [sa, sb]⟩ 20 sb.iv := s_knows (by decide +kernel)
theorem s_upto19 : upTo [sa, sb] 19 = 1 := by simp [upTo, sa, sb]
theorem s_known20 : known ⟨sR, [sa, sb]⟩ ((20 : Nat) : Int) = ⟨sR, [sa, sb]⟩ := by unfold known; simp [upTo, sa, sb]
theorem s_until1 : UntilIs (known ⟨sR, [sa, sb]⟩ ((20 : Nat) : Int)) 20 (Rat.divInt 4 1) 30 true := by
  rw [s_known20]
  exact .last (N := 10) (by simp) s_free s_knows20 (by omega) (by decide +kernel) (fun _ => by decide +kernel)
theorem s_until2 : UntilIs (known ⟨sR, [sa, sb]⟩ ((20 : Nat) : Int)) 20 (Rat.divInt 1 1) 0 false := by
  rw [s_known20]
  exact .wide (by simp) s_free s_knows20 (by decide +kernel)
end Go.Proofs.YtngohpgkceedeaaGreatDoor
