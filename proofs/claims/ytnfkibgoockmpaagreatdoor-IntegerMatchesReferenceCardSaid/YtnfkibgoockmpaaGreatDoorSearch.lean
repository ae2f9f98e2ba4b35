/-
  sort.Search, and the closure that over hands it.
-/
import Derived.Test.YtnfkibgoockmpaaGreatDoorTimes
import Derived.Deep.LoopGhost
import Derived.Sort.Walk0
import Derived.Deep.RegionWith
namespace Go.Proofs.YtnfkibgoockmpaaGreatDoor
open Go Go.RowKit Go.Lib Go.Shelf

/-- A closure that says p, in whatever later world. -/
def Says (g : FuncId) (lb : Array Value) (p : Nat → Bool) (n : Nat) (w0 : World) : Prop :=
  ∀ (W : World) (i : Nat), i < n → Below w0.heap.size w0 W → Calls Tryz.prog g (#[.int .i64 (i : Int)] ++ lb) W fun e W' => e = .returned (.bool (p i)) ∧ Below W.heap.size W W'

set_option maxHeartbeats 2000000 in
set_option maxRecDepth 100000 in
/-- sort.Search: the first place at which p holds. -/
theorem search_any (n : Nat) (g : FuncId) (lb : Array Value) (p : Nat → Bool) (w : World) (eg : ∀ args w, (callFunc g args).run Tryz.prog w = .ok (.enter g args) w) (hn : n ≤ 1000000)
    (hp : Says g lb p n w) (hmono : ∀ a b, a ≤ b → b < n → p a = true → p b = true) :
    Calls Tryz.prog 67 #[.int .i64 (n : Int), .func (.func g) #[] lb] w
      fun e w' => (∃ k : Nat, e = .returned (.int .i64 (k : Int)) ∧ k ≤ n ∧ (∀ t, t < k → p t = false) ∧ (∀ t, k ≤ t → t < n → p t = true)) ∧ Below w.heap.size w w' := by
  have HP := Lib.hid hp
  have HM := Lib.hid hmono
  clear hp hmono
  go_enter Tryz.func67, Tryz.ntmps67
  go_wp2
  go_loopw [5, 6] (fun s5 s6 wr => ∃ lo hi : Nat, s5 = .int .i64 (lo : Int) ∧ s6 = .int .i64 (hi : Int) ∧ lo ≤ hi ∧ hi ≤ n ∧ Below w.heap.size w wr ∧ Hid ((∀ t, t < lo → p t = false) ∧ (∀ t, hi ≤ t → t < n → p t = true)))
    (fun s5 s6 _ => (RowKit.intOf s6).toNat - (RowKit.intOf s5).toNat)
  case atStart => exact ⟨0, n, rfl, rfl, Nat.zero_le _, Nat.le_refl _, Below.refl _ _, ⟨fun t ht => absurd ht (Nat.not_lt_zero _), fun t h1 h2 => by omega⟩⟩
  case round =>
    obtain ⟨lo, hi, rfl, rfl, hlh, hin, hB, I⟩ := hrel
    by_cases hlt : lo < hi
    · have hc := HP.out wr ((lo + hi) / 2) (by omega) hB
      rw [show (((lo + hi) / 2 : Nat) : Int) = ((lo : Int) + (hi : Int)) / 2 by omega] at hc
      cases hpv : p ((lo + hi) / 2) <;> rw [hpv] at hc
      · have HPV := Lib.hid hpv
        clear hpv
        go_wp2_with (go_at_fn g; refine hc.mono ?_; rintro e W1 ⟨rfl, hb1⟩)
        go_roundw
        case rel => exact ⟨(lo + hi) / 2 + 1, hi, by go_num, rfl, by omega, hin, hB.trans (hb1.mono hB.size), ⟨fun t ht => (by
            cases h : p t with
            | false => rfl
            | true => have := HM.out t ((lo + hi) / 2) (by omega) (by omega) h; rw [HPV.out] at this; cases this), I.out.2⟩⟩
        case measure => simp [RowKit.intOf]; omega
      · have HPV := Lib.hid hpv
        clear hpv
        go_wp2_with (go_at_fn g; refine hc.mono ?_; rintro e W1 ⟨rfl, hb1⟩)
        go_roundw
        case rel => exact ⟨lo, (lo + hi) / 2, rfl, by go_num, by omega, by omega, hB.trans (hb1.mono hB.size), ⟨I.out.1, fun t ht htn => HM.out ((lo + hi) / 2) t ht htn HPV.out⟩⟩
        case measure => simp [RowKit.intOf]; omega
    · obtain rfl : hi = lo := by omega
      go_wp2
      go_ret
      exact ⟨⟨hi, rfl, hin, I.out.1, I.out.2⟩, hB⟩

/-- The place that Search finds in over: the group of the quotient, at most 9999. -/
theorem search_group' (R m k : Nat) (hm : 0 < m) (hk : k ≤ 9999) (h1 : ∀ t, t < k → decide (R < (t + 1) * m) = false) (h2 : ∀ t, k ≤ t → t < 9999 → decide (R < (t + 1) * m) = true) :
    k = min 9999 (R / m) := by
  have e1 : k ≤ R / m := by
    rcases Nat.eq_zero_or_pos k with rfl | hp
    · exact Nat.zero_le _
    · have := h1 (k - 1) (by omega)
      simp only [decide_eq_false_iff_not, Nat.not_lt] at this
      rw [show k - 1 + 1 = k by omega] at this
      exact (Nat.le_div_iff_mul_le hm).2 this
  rcases Nat.lt_or_ge k 9999 with hlt | hge
  · have := h2 k (Nat.le_refl _) hlt
    simp only [decide_eq_true_eq] at this
    have h3 : R / m < k + 1 := (Nat.div_lt_iff_lt_mul hm).2 this
    omega
  · omega

set_option maxHeartbeats 1000000 in
/-- over's closure: is (d + 1) * y more than r? -/
theorem over1_any (A B : Option Addr) (n c m e y r : Nat) (d : Nat) (b1 b2 : Nat) (w : World) (hy : IsNum w B m e y) (hr : IsNum w A n c r) (hy1 : Mod y) (hy2 : Mod (y * (d + 1))) (hr1 : Mod r) (hd : d < 9999)
    (h1 : w.cell? ⟨b1, 0, none⟩ = some (.func (.func 64) #[.slice B m e] #[])) (h2 : w.cell? ⟨b2, 0, none⟩ = some (.slice A n c)) :
    Calls Tryz.prog 66 #[.int .i64 (d : Int), .pointer (some ⟨b1, 0, none⟩), .pointer (some ⟨b2, 0, none⟩)] w
      fun e w' => e = .returned (.bool (decide (r < (d + 1) * y))) ∧ Below w.heap.size w w' := by
  have hmx : Tryz.prog.follows .mixedOrders = true := by kernel_rfl
  have HY := Lib.hid hy
  have HR := Lib.hid hr
  have HY1 := Lib.hid hy1
  have HY2 := Lib.hid hy2
  have HR1 := Lib.hid hr1
  clear hy hr hy1 hy2 hr1
  have hb2 := World.block_lt_of_cell? _ _ h2
  have hby : ∀ W, IsNum W B m e y → Calls Tryz.prog 64 #[.slice B m e, .int .i64 ((d : Int) + 1)] W (GivesNum (y * (d + 1)) W) := fun W h => by
    have := by_any B m e y (d + 1) W h HY1.out (by omega)
    rwa [show ((d + 1 : Nat) : Int) = (d : Int) + 1 by omega] at this
  have HBY := Lib.hid hby
  clear hby
  obtain ⟨z, hz⟩ : ∃ z, z = cmpZ (y * (d + 1) : Nat) r := ⟨_, rfl⟩
  have HZ := Lib.hid hz
  have hfin : Hid (decide (0 < z) = decide (r < (d + 1) * y)) := by
    have : decide (0 < z) = decide (r < (d + 1) * y) := by
      rw [hz, Nat.mul_comm (d + 1) y]
      generalize y * (d + 1) = t
      unfold cmpZ
      by_cases h : r < t
      · rw [if_neg (by omega), if_pos (by omega)]; simp [h]
      · rcases Nat.lt_or_ge t r with h3 | h3
        · rw [if_pos (by omega)]; simp [h]
        · rw [if_neg (by omega), if_neg (by omega)]; simp [h]
    exact this
  clear hz
  have hw : IntKind.i64.wrap ((d : Int) + 1) = (d : Int) + 1 := by rw [IntKind.wrap_i64]; omega
  go_enter Tryz.func66, Tryz.ntmps66
  go_wp2
  go_region_with (first
    | (go_at_call 64; refine (HBY.out _ (by exact HY.out)).mono ?_; rintro e1 W3 ⟨A3, n3, c3, rfl, h3, hb3⟩; have hc3 := later (below_of_drew hb3) h2 hb2)
    | (go_at_call 46; refine (compare_any A3 A n3 c3 n c (y * (d + 1)) r _ (by exact h3) (by exact HR.out.below (below_of_drew hb3)) HY2.out HR1.out).mono ?_; rintro e1 W4 ⟨rfl, hb4⟩; rw [← HZ.out]))
  all_goals go_wp2
  all_goals go_ret
  all_goals exact ⟨congrArg (fun b => Ending.returned (.bool b)) hfin.out, (below_of_drew hb3).trans (hb4.mono (below_of_drew hb3).size)⟩
end Go.Proofs.YtnfkibgoockmpaaGreatDoor
