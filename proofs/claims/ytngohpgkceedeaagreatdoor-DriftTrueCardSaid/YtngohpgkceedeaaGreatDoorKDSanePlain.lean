/-
  Drift, plain: what the laws say of what is known. No program in sight. Drift, plain: up to when what is known stays within a width; the order in which points are added. No program in sight. The fixed examples of the drift laws: what is known of them.
-/
import Derived.Test.YtngohpgkceedeaaGreatDoorKDPlain
set_option linter.unusedSimpArgs false
set_option linter.unusedVariables false
namespace Go.Proofs.YtngohpgkceedeaaGreatDoor
open Go Go.Lib

theorem Free.rate {r s : Rat} {l : List Pt} (h : r ≤ s) (hf : Free ⟨r, l⟩) : Free ⟨s, l⟩ := fun p hp q hq hc => hf p hp q hq (contra_rate h hc)
theorem Knows.faster {r s : Rat} {l : List Pt} {t : Nat} {a c : Iv} (h : r ≤ s) (ka : Knows ⟨r, l⟩ t a) (kc : Knows ⟨s, l⟩ t c) : a.Sub c := by
  obtain ⟨⟨⟨p, hp, e⟩, _⟩, ⟨⟨q, hq, e'⟩, _⟩⟩ := kc
  have h1 := ka.1.2 p hp
  have h2 := ka.2.2 q hq
  have h3 := far_rate h (dist t p.t)
  have h4 := far_rate h (dist t q.t)
  simp only at e e' h1 h2
  unfold lowAt at e h1
  unfold highAt at e' h2
  exact ⟨by grind, by grind⟩
theorem Knows.more {r : Rat} {l m : List Pt} {t : Nat} {a b : Iv} (h : ∀ p, p ∈ l → p ∈ m) (ka : Knows ⟨r, l⟩ t a) (kb : Knows ⟨r, m⟩ t b) : b.Sub a := by
  obtain ⟨⟨⟨p, hp, e⟩, _⟩, ⟨⟨q, hq, e'⟩, _⟩⟩ := ka
  have h1 := kb.1.2 p (h p hp)
  have h2 := kb.2.2 q (h q hq)
  simp only at e e' h1 h2
  exact ⟨by rw [e]; exact h1, by rw [e']; exact h2⟩
theorem Knows.own {h : Hist} {p : Pt} {d : Iv} (hp : p ∈ h.pts) (k : Knows h p.t d) : d.Sub p.iv := by
  have h1 := k.1.2 p hp
  have h2 := k.2.2 p hp
  unfold lowAt at h1
  unfold highAt at h2
  rw [dist_self, far_zero] at h1 h2
  exact ⟨by grind, by grind⟩

/-- A true value that changes no faster than the rate, and was in the interval of each point. -/
structure Honest (h : Hist) (v : Nat → Rat) (n : Nat) : Prop where
  slow : ∀ i k, i < n → k < n → v i - v k ≤ far h.rate (dist i k)
  seen : ∀ p, p ∈ h.pts → p.t < n ∧ p.iv.Has (v p.t)
theorem Honest.free {h : Hist} {v : Nat → Rat} {n : Nat} (hh : Honest h v n) : Free h := by
  intro p hp q hq
  obtain ⟨h1, h2⟩ := hh.seen p hp
  obtain ⟨h3, h4⟩ := hh.seen q hq
  have h5 := hh.slow q.t p.t h3 h1
  have h6 := hh.slow p.t q.t h1 h3
  rw [dist_comm p.t q.t] at h6
  have a1 := h2.1; have a2 := h2.2; have a3 := h4.1; have a4 := h4.2
  exact not_contra.2 ⟨by grind, by grind⟩
theorem Honest.has {h : Hist} {v : Nat → Rat} {n t : Nat} {o : Iv} (hh : Honest h v n) (ht : t < n) (k : Knows h t o) : o.Has (v t) := by
  obtain ⟨⟨⟨p, hp, e⟩, _⟩, ⟨⟨q, hq, e'⟩, _⟩⟩ := k
  obtain ⟨h1, h2⟩ := hh.seen p hp
  obtain ⟨h3, h4⟩ := hh.seen q hq
  have h5 := hh.slow p.t t h1 ht
  have h6 := hh.slow t q.t ht h3
  rw [dist_comm p.t t] at h5
  have a1 := h2.1; have a4 := h4.2
  unfold lowAt at e
  unfold highAt at e'
  exact ⟨by grind, by grind⟩

/-- The greatest value at a time s that the value v at the time t, and the lower ends of the points, ask for. -/
def Asks (h : Hist) (t : Nat) (v : Rat) (s : Nat) (l : List Pt) (x : Rat) : Prop :=
  (x = v - far h.rate (dist t s) ∨ ∃ q, q ∈ l ∧ x = q.iv.lo - far h.rate (dist q.t s)) ∧ v - far h.rate (dist t s) ≤ x ∧ ∀ q, q ∈ l → q.iv.lo - far h.rate (dist q.t s) ≤ x
theorem Asks.start (h : Hist) (t : Nat) (v : Rat) (s : Nat) : Asks h t v s [] (v - far h.rate (dist t s)) := ⟨.inl rfl, Rat.le_refl, by simp⟩
theorem Asks.le {h : Hist} {t : Nat} {v : Rat} {s : Nat} {l : List Pt} {x : Rat} {q : Pt} (a : Asks h t v s l x) (hq : q.iv.lo - far h.rate (dist q.t s) ≤ x) : Asks h t v s (l ++ [q]) x :=
  ⟨a.1.elim .inl fun ⟨p, hp, e⟩ => .inr ⟨p, List.mem_append_left _ hp, e⟩, a.2.1, fun p hp => by
    rcases List.mem_append.1 hp with hp | hp
    · exact a.2.2 p hp
    · simp at hp; subst hp; exact hq⟩
theorem Asks.has {h : Hist} {t : Nat} {v : Rat} {o : Iv} {p : Pt} {x : Rat} (hf : Free h) (k : Knows h t o) (hv : o.Has v) (hp : p ∈ h.pts) (a : Asks h t v p.t h.pts x) : p.iv.Has x := by
  have h1 := a.2.2 p hp
  rw [dist_self, far_zero] at h1
  refine ⟨by grind, ?_⟩
  rcases a.1 with e | ⟨q, hq, e⟩
  · have h2 := k.2.2 p hp
    have h3 := hv.2
    unfold highAt at h2
    grind
  · have h2 := (not_contra.1 (hf q hq p hp)).2
    rw [dist_comm] at h2
    grind
/-- One of the values, less what it can fall, is at most the other one. -/
theorem Asks.slow {h : Hist} (hr : 0 ≤ h.rate) {t s u : Nat} {v x y : Rat} (a : Asks h t v s h.pts x) (b : Asks h t v u h.pts y) : x - far h.rate (dist s u) ≤ y := by
  rcases a.1 with e | ⟨q, hq, e⟩
  · have h1 := far_tri hr t s u
    have h2 := b.2.1
    grind
  · have h1 := far_tri hr q.t s u
    have h2 := b.2.2 q hq
    grind
theorem Asks.from {h : Hist} {t s : Nat} {v x : Rat} (a : Asks h t v s h.pts x) : v - far h.rate (dist t s) ≤ x := a.2.1
theorem Knows.over {h : Hist} {t : Nat} {o : Iv} (k : Knows h t o) {e : Rat} (he : 0 < e) : ∃ p, p ∈ h.pts ∧ p.iv.hi < o.hi + e - far h.rate (dist t p.t) := by
  obtain ⟨⟨q, hq, e'⟩, _⟩ := k.2
  unfold highAt at e'
  exact ⟨q, hq, by grind⟩
/-- Behind the last point what is known grows by the rate, at both ends. -/
theorem Knows.after {h : Hist} {t n : Nat} {o : Iv} (hp : ∀ p, p ∈ h.pts → p.t ≤ t) (k : Knows h t o) : Knows h (t + n) ⟨o.lo - far h.rate n, o.hi + far h.rate n⟩ := by
  have key : ∀ p, p ∈ h.pts → far h.rate (dist (t + n) p.t) = far h.rate (dist t p.t) + far h.rate n := fun p hp' => by
    have := hp p hp'
    rw [← far_add]
    congr 1
    unfold dist; omega
  refine ⟨⟨?_, fun p hp' => ?_⟩, ⟨?_, fun p hp' => ?_⟩⟩
  · obtain ⟨⟨p, hp', e⟩, _⟩ := k.1
    refine ⟨p, hp', ?_⟩
    unfold lowAt at *
    have := key p hp'
    grind
  · have h1 := k.1.2 p hp'
    have := key p hp'
    unfold lowAt at *
    grind
  · obtain ⟨⟨p, hp', e⟩, _⟩ := k.2
    refine ⟨p, hp', ?_⟩
    unfold highAt at *
    have := key p hp'
    grind
  · have h1 := k.2.2 p hp'
    have := key p hp'
    unfold highAt at *
    grind
theorem known_times (h : Hist) (ho : h.Ok) (t : Int) : ∀ p, p ∈ (known h t).pts → (p.t : Int) ≤ t := (upTo_spec t h.pts ho.sorted).1

/-- All times later. -/
def laterPts (k : Nat) (l : List Pt) : List Pt := l.map fun p => ⟨p.t + k, p.iv⟩
theorem Free.later {r : Rat} {l : List Pt} (k : Nat) : Free ⟨r, laterPts k l⟩ ↔ Free ⟨r, l⟩ := by
  have e : ∀ p q : Pt, contra r ⟨p.t + k, p.iv⟩ ⟨q.t + k, q.iv⟩ ↔ contra r p q := fun p q => by unfold contra; simp only [dist_shift]
  constructor
  · intro h p hp q hq hc
    exact h _ (List.mem_map.2 ⟨p, hp, rfl⟩) _ (List.mem_map.2 ⟨q, hq, rfl⟩) ((e p q).2 hc)
  · intro h p hp q hq hc
    obtain ⟨p', hp', rfl⟩ := List.mem_map.1 hp
    obtain ⟨q', hq', rfl⟩ := List.mem_map.1 hq
    exact h p' hp' q' hq' ((e p' q').1 hc)

/-- The two points alone contradict each other: what is known is nothing; a rate that bridges the gap. -/
theorem two_free {r : Rat} (hr : 0 ≤ r) {a b : Pt} (ha : a.iv.Ok) (hb : b.iv.Ok) : Free ⟨r, [a, b]⟩ ↔ ¬ contra r a b := by
  constructor
  · intro h; exact h a (by simp) b (by simp)
  · intro h p hp q hq
    simp only [List.mem_cons, List.not_mem_nil, or_false] at hp hq
    rcases hp with rfl | rfl <;> rcases hq with rfl | rfl
    · exact contra_self hr ha
    · exact h
    · exact fun hc => h (contra_comm.1 hc)
    · exact contra_self hr hb
end Go.Proofs.YtngohpgkceedeaaGreatDoor
namespace Go.Proofs.YtngohpgkceedeaaGreatDoor
open Go Go.Lib

/-- Up to when what is known by points up to a time f stays within a width. -/
inductive UntilIs (k : Hist) (f : Nat) (w : Rat) : Nat → Bool → Prop where
  | none (h : k.pts = [] ∨ ¬ Free k) : UntilIs k f w 0 false
  | wide {o : Iv} (h1 : k.pts ≠ []) (h2 : Free k) (h3 : Knows k f o) (h4 : w < o.hi - o.lo) : UntilIs k f w 0 false
  | last {o : Iv} {N : Nat} (h1 : k.pts ≠ []) (h2 : Free k) (h3 : Knows k f o) (h4 : f + N ≤ 1000000) (h5 : o.hi - o.lo + far k.rate (2 * N) ≤ w) (h6 : f + N < 1000000 → w < o.hi - o.lo + far k.rate (2 * (N + 1))) : UntilIs k f w (f + N) true
theorem UntilIs.unique {k : Hist} {f : Nat} {w : Rat} (hr : 0 ≤ k.rate) {n m : Nat} {a b : Bool} (h : UntilIs k f w n a) (g : UntilIs k f w m b) : n = m ∧ a = b := by
  cases h with
  | none h =>
    cases g with
    | none => exact ⟨rfl, rfl⟩
    | wide g1 g2 => exact ⟨rfl, rfl⟩
    | last g1 g2 => rcases h with h | h; exact absurd h g1; exact absurd g2 h
  | wide h1 h2 h3 h4 =>
    cases g with
    | none => exact ⟨rfl, rfl⟩
    | wide => exact ⟨rfl, rfl⟩
    | last g1 g2 g3 _ g5 =>
      obtain rfl := h3.unique g3
      exfalso
      have := far_nonneg hr (2 * ‹Nat›)
      grind
  | @last o N h1 h2 h3 h4 h5 h6 =>
    cases g with
    | none g => rcases g with g | g; exact absurd g h1; exact absurd h2 g
    | wide g1 g2 g3 g4 =>
      obtain rfl := h3.unique g3
      exfalso
      have := far_nonneg hr (2 * N)
      grind
    | @last o' M g1 g2 g3 g4 g5 g6 =>
      obtain rfl := h3.unique g3
      rcases Nat.lt_trichotomy N M with hl | rfl | hl
      · exfalso
        have a1 := h6 (by omega)
        have a2 := far_mono hr (show 2 * (N + 1) ≤ 2 * M by omega)
        grind
      · exact ⟨rfl, rfl⟩
      · exfalso
        have a1 := g6 (by omega)
        have a2 := far_mono hr (show 2 * (M + 1) ≤ 2 * N by omega)
        grind
/-- The width n units of time behind f. -/
theorem width_after {k : Hist} {f n : Nat} {o o' : Iv} (hp : ∀ p, p ∈ k.pts → p.t ≤ f) (h : Knows k f o) (h' : Knows k (f + n) o') : o'.hi - o'.lo = o.hi - o.lo + far k.rate (2 * n) := by
  obtain rfl := h'.unique (Knows.after hp h)
  rw [show 2 * n = n + n by omega, far_add]
  show (o.hi + far k.rate n) - (o.lo - far k.rate n) = _
  grind
/-- What a search for the first time at which it is too wide has found. -/
theorem UntilIs.of_search {k : Hist} {f N : Nat} {w : Rat} {o : Iv} (h1 : k.pts ≠ []) (h2 : Free k) (h3 : Knows k f o) (h0 : o.hi - o.lo ≤ w) (hN : N ≤ 1000000 - f) (hf : f ≤ 1000000)
    (hlo : ∀ j, j < N → ¬ w < o.hi - o.lo + far k.rate (2 * (j + 1))) (hhi : ∀ j, N ≤ j → j < 1000000 - f → w < o.hi - o.lo + far k.rate (2 * (j + 1))) : UntilIs k f w (f + N) true := by
  refine .last h1 h2 h3 (by omega) ?_ (fun h => hhi N (Nat.le_refl _) (by omega))
  cases N with
  | zero => rw [Nat.mul_zero, far_zero]; grind
  | succ M => exact Rat.not_lt.1 (hlo M (by omega))
theorem exists_lo (r : Rat) (t : Nat) : ∀ l : List Pt, l ≠ [] → ∃ x, IsLo r t l x := by
  intro l hl
  obtain ⟨ini, p, rfl⟩ : ∃ ini p, l = ini ++ [p] := ⟨l.dropLast, l.getLast hl, (List.dropLast_concat_getLast hl).symm⟩
  clear hl
  generalize hn : ini.length = n
  induction n generalizing ini p with
  | zero => obtain rfl := List.length_eq_zero_iff.1 hn; exact ⟨_, IsLo.one r t p⟩
  | succ n ih =>
    obtain ⟨i2, q, rfl⟩ : ∃ i2 q, ini = i2 ++ [q] := ⟨ini.dropLast, ini.getLast (by intro e; rw [e] at hn; simp at hn), (List.dropLast_concat_getLast _).symm⟩
    obtain ⟨x, hx⟩ := ih i2 q (by simpa using hn)
    by_cases h : x < lowAt r t p
    · exact ⟨_, hx.snoc_gt h⟩
    · exact ⟨_, hx.snoc_le (Rat.not_lt.1 h)⟩
theorem exists_hi (r : Rat) (t : Nat) : ∀ l : List Pt, l ≠ [] → ∃ x, IsHi r t l x := by
  intro l hl
  obtain ⟨ini, p, rfl⟩ : ∃ ini p, l = ini ++ [p] := ⟨l.dropLast, l.getLast hl, (List.dropLast_concat_getLast hl).symm⟩
  clear hl
  generalize hn : ini.length = n
  induction n generalizing ini p with
  | zero => obtain rfl := List.length_eq_zero_iff.1 hn; exact ⟨_, IsHi.one r t p⟩
  | succ n ih =>
    obtain ⟨i2, q, rfl⟩ : ∃ i2 q, ini = i2 ++ [q] := ⟨ini.dropLast, ini.getLast (by intro e; rw [e] at hn; simp at hn), (List.dropLast_concat_getLast _).symm⟩
    obtain ⟨x, hx⟩ := ih i2 q (by simpa using hn)
    by_cases h : highAt r t p < x
    · exact ⟨_, hx.snoc_lt h⟩
    · exact ⟨_, hx.snoc_ge (Rat.not_lt.1 h)⟩
theorem exists_knows (h : Hist) (t : Nat) (hl : h.pts ≠ []) : ∃ o, Knows h t o := by
  obtain ⟨x, hx⟩ := exists_lo h.rate t h.pts hl
  obtain ⟨y, hy⟩ := exists_hi h.rate t h.pts hl
  exact ⟨⟨x, y⟩, hx, hy⟩

end Go.Proofs.YtngohpgkceedeaaGreatDoor
namespace Go.Proofs.YtngohpgkceedeaaGreatDoor
open Go Go.Lib

def sR : Rat := Rat.divInt 1 10
def sa : Pt := ⟨0, ⟨Rat.divInt 5 1, Rat.divInt 6 1⟩⟩
def sb : Pt := ⟨20, ⟨Rat.divInt 6 1, Rat.divInt 8 1⟩⟩
def sc : Pt := ⟨10, ⟨Rat.divInt 8 1, Rat.divInt 9 1⟩⟩
def so1 : Iv := ⟨Rat.divInt 5 1, Rat.divInt 7 1⟩
def so2 : Iv := ⟨Rat.divInt 5 1, Rat.divInt 9 1⟩
theorem s_rate : 0 ≤ sR := by unfold sR; decide +kernel
theorem s_rdig : QDig 40 sR := QDig.mono (j := 2) (by unfold QDig Dig sR; decide +kernel) (by omega)
theorem s_iv : ∀ p, p ∈ [sa, sb, sc] → p.t ≤ 1000000 ∧ p.iv.Ok ∧ IDig 40 p.iv := by
  intro p hp
  simp only [List.mem_cons, List.not_mem_nil, or_false] at hp
  rcases hp with rfl | rfl | rfl
  · exact ⟨by decide, by unfold Iv.Ok sa; decide +kernel, QDig.mono (j := 1) (by unfold QDig Dig sa; decide +kernel) (by omega), QDig.mono (j := 1) (by unfold QDig Dig sa; decide +kernel) (by omega)⟩
  · exact ⟨by decide, by unfold Iv.Ok sb; decide +kernel, QDig.mono (j := 1) (by unfold QDig Dig sb; decide +kernel) (by omega), QDig.mono (j := 1) (by unfold QDig Dig sb; decide +kernel) (by omega)⟩
  · exact ⟨by decide, by unfold Iv.Ok sc; decide +kernel, QDig.mono (j := 1) (by unfold QDig Dig sc; decide +kernel) (by omega), QDig.mono (j := 1) (by unfold QDig Dig sc; decide +kernel) (by omega)⟩
theorem s_ok : Hist.Ok ⟨sR, [sa, sb]⟩ where
  rate := s_rate
  rdig := s_rdig
  few := by simp
  times := fun p hp => (s_iv p (by simp at hp ⊢; rcases hp with h | h <;> simp [h])).1
  ivs := fun p hp => (s_iv p (by simp at hp ⊢; rcases hp with h | h <;> simp [h])).2
  sorted := by simp [sa, sb]
theorem s_ins : ins [sa, sb] sc = [sa, sc, sb] := by simp [ins, upTo, sa, sb, sc]
theorem s_ok2 : Hist.Ok ⟨sR, [sa, sc, sb]⟩ where
  rate := s_rate
  rdig := s_rdig
  few := by simp
  times := fun p hp => (s_iv p (by simp at hp ⊢; rcases hp with h | h | h <;> simp [h])).1
  ivs := fun p hp => (s_iv p (by simp at hp ⊢; rcases hp with h | h | h <;> simp [h])).2
  sorted := by simp [sa, sb, sc]
theorem s_free : Free ⟨sR, [sa, sb]⟩ := by
  refine (two_free s_rate (s_iv sa (by simp)).2.1 (s_iv sb (by simp)).2.1).2 ?_
  decide +kernel
theorem s_bad : ¬ Free ⟨sR, [sa, sc, sb]⟩ := fun h => h sa (by simp) sc (by simp) (by decide +kernel)
theorem s_cons : cons ⟨sR, [sa, sc, sb]⟩ = [(0, 1)] := by decide +kernel
theorem s_knows {t : Nat} {o : Iv} (h : (o.lo = lowAt sR t sa ∨ o.lo = lowAt sR t sb) ∧ lowAt sR t sa ≤ o.lo ∧ lowAt sR t sb ≤ o.lo ∧ (o.hi = highAt sR t sa ∨ o.hi = highAt sR t sb) ∧ o.hi ≤ highAt sR t sa ∧ o.hi ≤ highAt sR t sb) : Knows ⟨sR, [sa, sb]⟩ t o := by
  obtain ⟨h1, h2, h3, h4, h5, h6⟩ := h
  refine ⟨⟨?_, ?_⟩, ⟨?_, ?_⟩⟩
  · rcases h1 with h | h
    · exact ⟨sa, by simp, h⟩
    · exact ⟨sb, by simp, h⟩
  · intro p hp; simp at hp; rcases hp with rfl | rfl
    · exact h2
    · exact h3
  · rcases h4 with h | h
    · exact ⟨sa, by simp, h⟩
    · exact ⟨sb, by simp, h⟩
  · intro p hp; simp at hp; rcases hp with rfl | rfl
    · exact h5
    · exact h6
theorem s_knows1 : Knows ⟨sR, [sa, sb]⟩ 10 so1 := s_knows (by decide +kernel)
theorem s_knows2 : Knows ⟨sR, [sa, sb]⟩ 30 so2 := s_knows (by decide +kernel)
theorem s_knows20 : Knows ⟨sR, [sa, sb]⟩ 20 sb.iv := s_knows (by decide +kernel)
theorem s_upto19 : upTo [sa, sb] 19 = 1 := by simp [upTo, sa, sb]
theorem s_known20 : known ⟨sR, [sa, sb]⟩ ((20 : Nat) : Int) = ⟨sR, [sa, sb]⟩ := by unfold known; simp [upTo, sa, sb]
theorem s_until1 : UntilIs (known ⟨sR, [sa, sb]⟩ ((20 : Nat) : Int)) 20 (Rat.divInt 4 1) 30 true := by
  rw [s_known20]
  exact .last (N := 10) (by simp) s_free s_knows20 (by omega) (by decide +kernel) (fun _ => by decide +kernel)
theorem s_until2 : UntilIs (known ⟨sR, [sa, sb]⟩ ((20 : Nat) : Int)) 20 (Rat.divInt 1 1) 0 false := by
  rw [s_known20]
  exact .wide (by simp) s_free s_knows20 (by decide +kernel)
end Go.Proofs.YtngohpgkceedeaaGreatDoor
