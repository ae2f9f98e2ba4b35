/-
  drift.Until at valid histories: what its answer is.
-/
import Derived.Test.YtngohpgkceedeaaGreatDoorWDUntil
set_option linter.unusedSimpArgs false
set_option linter.unusedVariables false
namespace Go.Proofs.YtngohpgkceedeaaGreatDoor
open Go Go.RowKit Go.Lib Go.Shelf

theorem own_pat {W : World} {n k c : Nat} {p : Option Addr} {l : List Pt} (h : W.ownsRow n 53 5 (.slice p k c) k (pCells l)) (hl : l.length = k) : PAt W p l := by
  subst hl
  obtain ⟨p3, c3, e3, _, _, h3⟩ := PRow.open (own_row h)
  injection e3 with e5
  subst e5
  exact h3
theorem duntil {r wd : Rat} {l : List Pt} (ho : Hist.Ok ⟨r, l⟩) {f : Nat} (hf : f ≤ 1000000) (hwd : QDig 200 wd) (p : Option Addr) (m c : Nat) (hm : l.length = m) (hmc : m ≤ c) (w : World) (hp : PAt w p l) (he : Env w) :
    Calls Tryz.prog 33 #[.agg #[.string (S r.num), .string (S (r.den : Int)), .slice p m c], .int .i64 (f : Int), .agg #[.string (S wd.num), .string (S (wd.den : Int))]] w
      fun e w' => ∃ (n : Nat) (b : Bool), UntilIs (known ⟨r, l⟩ f) f wd n b ∧ e = .returned (.tuple #[.int .i64 (n : Int), .bool b]) ∧ Below w.heap.size w w' := by
  have hok := known_ok ho (f : Int)
  have htm := known_times ⟨r, l⟩ ho (f : Int)
  unfold known at hok htm ⊢
  simp only at hok htm ⊢
  have KV : ∀ W, Below w.heap.size w W → Calls Tryz.prog 36 #[.agg #[.string (S r.num), .string (S (r.den : Int)), .slice p m c], .int .i64 (f : Int)] W fun e w' => ∃ p2 c2, w'.ownsRow W.heap.size 53 5 (.slice p2 (upTo l f) c2) (upTo l f) (pCells (l.take (upTo l f))) ∧ e = .returned (.agg #[.string (S r.num), .string (S (r.den : Int)), .slice p2 (upTo l f) c2]) ∧ Below W.heap.size W w' := fun W hW =>
    dknown (f : Int) ho p m c hm hmc W (hp.below hW) (he.below hW)
  have HV : ∀ W, Below w.heap.size w W → Calls Tryz.prog 58 #[.agg #[.string (S wd.num), .string (S (wd.den : Int))]] W (BoolOk true W) := fun W hW => qvalid wd hwd W (he.below hW)
  have hlk : (l.take (upTo l f)).length = upTo l f := by rw [List.length_take, Nat.min_eq_left (upTo_le l _)]
  have hfu : ∀ q, q ∈ l.take (upTo l f) → q.t ≤ f := fun q hq => by have := htm q hq; omega
  generalize l.take (upTo l f) = lk at *
  generalize upTo l f = k at *
  have wide : (∀ p2 c2 bh bf bw n W, W.ownsRow n 53 5 (.slice p2 k c2) k (pCells lk) → Row W bh (.cells #[.string (S r.num), .string (S (r.den : Int)), .slice p2 k c2] 49) → Row W bf (.cells #[.int .i64 (f : Int)] 3) → Row W bw (.cells #[.string (S wd.num), .string (S (wd.den : Int))] 26) → Below w.heap.size w W →
      Calls Tryz.prog 86 #[.int .i64 0, .pointer (some ⟨bh, 0, none⟩), .pointer (some ⟨bf, 0, none⟩), .pointer (some ⟨bw, 0, none⟩)] W (BoolOk true W)) → UntilIs ⟨r, lk⟩ f wd 0 false →
      Calls Tryz.prog 33 #[.agg #[.string (S r.num), .string (S (r.den : Int)), .slice p m c], .int .i64 (f : Int), .agg #[.string (S wd.num), .string (S (wd.den : Int))]] w
      fun e w' => ∃ (n : Nat) (b : Bool), UntilIs ⟨r, lk⟩ f wd n b ∧ e = .returned (.tuple #[.int .i64 (n : Int), .bool b]) ∧ Below w.heap.size w w' := fun HI hu =>
    (duntil_wide hf _ _ _ _ _ _ p m c k (pCells lk) w KV HV HI).mono fun e w' ⟨h1, h2⟩ => ⟨0, false, hu, h1, h2⟩
  have he2 : ∀ W, Below w.heap.size w W → Env W := fun W h => he.below h
  by_cases hne : lk = []
  · subst hne
    obtain rfl : k = 0 := hlk.symm
    refine wide (fun p2 c2 bh bf bw n W hown rh rf rwd hW => ?_) (.none (.inl rfl))
    exact iswide_bad (f := f) (n := 0) (by omega) _ _ _ _ p2 0 c2 bh bf bw W (fun X hX => dat_empty hok _ p2 c2 X (own_pat (own_later hown hX) rfl) (he2 X (hW.trans (hX.mono hW.size)))) rh rf rwd
  · have hpos : 0 < k := by
      rcases Nat.eq_zero_or_pos k with h | h
      · exact absurd (List.length_eq_zero_iff.1 (hlk.trans h)) hne
      · exact h
    by_cases hfr : Free ⟨r, lk⟩
    · obtain ⟨o0, hk0⟩ := exists_knows ⟨r, lk⟩ f hne
      have ISW : ∀ p2 c2 bh bf bw n i W, f + i ≤ 1000000 → W.ownsRow n 53 5 (.slice p2 k c2) k (pCells lk) → Row W bh (.cells #[.string (S r.num), .string (S (r.den : Int)), .slice p2 k c2] 49) → Row W bf (.cells #[.int .i64 (f : Int)] 3) → Row W bw (.cells #[.string (S wd.num), .string (S (wd.den : Int))] 26) → Below w.heap.size w W →
          Calls Tryz.prog 86 #[.int .i64 (i : Int), .pointer (some ⟨bh, 0, none⟩), .pointer (some ⟨bf, 0, none⟩), .pointer (some ⟨bw, 0, none⟩)] W (BoolOk (decide (0 < cmpQ (o0.hi - o0.lo + far r (2 * i)) wd)) W) := fun p2 c2 bh bf bw n i W hi hown rh rf rwd hW =>
        iswide_ok hok hfr hi hk0 hfu hwd p2 k c2 hlk hpos bh bf bw W W (own_pat hown hlk) (Below.refl _ _) (he2 W hW) rh rf rwd
      by_cases hw0 : wd < o0.hi - o0.lo
      · refine wide (fun p2 c2 bh bf bw n W hown rh rf rwd hW => ?_) (.wide hne hfr hk0 hw0)
        have := ISW p2 c2 bh bf bw n 0 W (by omega) hown rh rf rwd hW
        rw [Nat.mul_zero, far_zero, decide_eq_true (cmpQ_gt.2 (by grind))] at this
        exact this
      · refine (duntil_last hf (fun i => decide (0 < cmpQ (o0.hi - o0.lo + far r (2 * i)) wd)) ?_ ?_ _ _ _ _ _ _ p m c k (pCells lk) w KV HV ISW).mono ?_
        · simp only [Nat.mul_zero, far_zero]
          exact decide_eq_false (fun h => hw0 (by have := cmpQ_gt.1 h; grind))
        · intro a b hab hb h
          simp only [decide_eq_true_eq, cmpQ_gt] at h ⊢
          have := far_mono hok.rate (show 2 * (a + 1) ≤ 2 * (b + 1) by omega)
          simp only at this
          grind
        · rintro e w' ⟨N, hN, hlo, hhi, rfl, hB⟩
          refine ⟨f + N, true, ?_, by push_cast; rfl, hB⟩
          refine UntilIs.of_search hne hfr hk0 (Rat.not_lt.1 hw0) hN hf (fun j hj => ?_) (fun j hj hj2 => ?_)
          · have := hlo j hj
            simp only [decide_eq_false_iff_not, cmpQ_gt] at this
            exact this
          · have := hhi j hj hj2
            simp only [decide_eq_true_eq, cmpQ_gt] at this
            exact this
    · refine wide (fun p2 c2 bh bf bw n W hown rh rf rwd hW => ?_) (.none (.inr hfr))
      exact iswide_bad (f := f) (n := 0) (by omega) _ _ _ _ p2 k c2 bh bf bw W (fun X hX => dat_bad hok hfr (t := f + 0) (by omega) p2 k c2 hlk hpos X (own_pat (own_later hown hX) hlk) (he2 X (hW.trans (hX.mono hW.size)))) rh rf rwd
end Go.Proofs.YtngohpgkceedeaaGreatDoor
