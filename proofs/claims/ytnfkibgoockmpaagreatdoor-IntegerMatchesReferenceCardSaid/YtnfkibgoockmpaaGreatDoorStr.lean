/-
  The exported functions, over strings.
-/
import Derived.Test.YtnfkibgoockmpaaGreatDoorText
namespace Go.Proofs.YtnfkibgoockmpaaGreatDoor
open Go Go.RowKit Go.Lib Go.Shelf

/-- The table that Itoa reads. -/
abbrev Tab (w : World) : Prop := Lib.TabIs Tryz.prog w "internal/strconv.uint64pow10" .u64 Lib.pow10Tab
theorem Tab.below {w w' : World} (h : Tab w) (hb : Below w.heap.size w w') : Tab w' := tabBelow_of_tabIs h w' hb
/-- A string within a string's bound. -/
abbrev Str (a : ByteArray) : Prop := a.size ≤ 9223372036854775807
theorem fits_mod {x : Int} (h : Fits x) : Mod x.natAbs := by
  refine mod_of_pow (K := 250) (Nat.lt_of_lt_of_le h ?_) (by decide)
  decide +kernel
theorem sum_lt {z : Nat} {neg : Bool} {x y : Int} (hx : Fits x) (hy : Fits y) (h : sv neg z = x + y) : z < 10000 ^ 250 := by
  have h1 : z = (x + y).natAbs := by rw [← h]; cases neg <;> simp [sv]
  have h2 : (10 : Nat) ^ 200 + 10 ^ 200 ≤ 10000 ^ 250 := by decide +kernel
  unfold Fits at hx hy
  generalize (10 : Nat) ^ 200 = T at *
  generalize (10000 : Nat) ^ 250 = U at *
  omega

set_option maxRecDepth 100000 in
set_option maxHeartbeats 1000000 in
theorem add_ok (a b : ByteArray) (x y : Int) (w : World) (ht : Tab w) (ha : a.data.toList = itoa x) (hb : b.data.toList = itoa y) (hx : Fits x) (hy : Fits y) (hsa : Str a) (hsb : Str b) :
    Calls Tryz.prog 14 #[.string a, .string b] w fun e w' => e = .returned (.tuple #[.string ⟨(tText (x + y)).toArray⟩, .int .i64 (tErr (x + y))]) ∧ Below w.heap.size w w' := by
  have mx := fits_mod hx
  have my := fits_mod hy
  have hsl := fun (z : Nat) (neg : Bool) (h : sv neg z = x + y) => sum_lt hx hy h
  have ax := sv_abs x
  have ay := sv_abs y
  go_enter Tryz.func14, Tryz.ntmps14
  go_wp2_with (first
    | (go_at_call 38; go_must (refine (both_ok a b x y _ ha hb hx hy hsa hsb).mono ?_; rintro e w1 ⟨u, v, rfl, ⟨A1, n1, k1, rfl, hu⟩, ⟨A2, n2, k2, rfl, hv⟩, hb1⟩))
    | (go_at_call 39; go_must (refine (splus_any _ _ _ _ _ _ _ ⟨A1, n1, k1, rfl, hu.below (below2 w1 _ _)⟩ ⟨A2, n2, k2, rfl, hv.below (below2 w1 _ _)⟩ mx my).mono ?_; rintro e w2 ⟨r, nr, z, rfl, hr, hz, hb2⟩; rw [ax, ay] at hz; have hb12 : Below w.heap.size w w2 := hb1.trans (((below2 w1 _ _).trans (hb2.mono (below2 w1 _ _).size)).mono hb1.size)))
    | (go_at_call 40; go_must (refine (text_any r nr z _ hr (hsl z nr hz) (ht.below hb12)).mono ?_; rintro e w3 ⟨rfl, hb3⟩; rw [hz])))
  go_wp2
  refine bodyPost_ret (v := .tuple #[.string ⟨(tText (x + y)).toArray⟩, .int .i64 (tErr (x + y))]) ?res rfl ⟨rfl, hb12.trans (hb3.mono hb12.size)⟩
  case res => simp [results, Tryz.f14, go_sem]

set_option maxRecDepth 100000 in
set_option maxHeartbeats 1000000 in
theorem sub_ok (a b : ByteArray) (x y : Int) (w : World) (ht : Tab w) (ha : a.data.toList = itoa x) (hb : b.data.toList = itoa y) (hx : Fits x) (hy : Fits y) (hsa : Str a) (hsb : Str b) :
    Calls Tryz.prog 16 #[.string a, .string b] w fun e w' => e = .returned (.tuple #[.string ⟨(tText (x - y)).toArray⟩, .int .i64 (tErr (x - y))]) ∧ Below w.heap.size w w' := by
  have mx := fits_mod hx
  have my := fits_mod hy
  have hsl := fun (z : Nat) (neg : Bool) (h : sv neg z = x - y) => sum_lt hx (y := -y) (by unfold Fits at *; rwa [Int.natAbs_neg]) h
  have ax := sv_abs x
  have ay : sv (!decide (y < 0)) y.natAbs = -y := by
    have := sv_abs y
    generalize decide (y < 0) = d at *
    cases d <;> simp [sv] at * <;> omega
  go_enter Tryz.func16, Tryz.ntmps16
  go_wp2_with (first
    | (go_at_call 38; go_must (refine (both_ok a b x y _ ha hb hx hy hsa hsb).mono ?_; rintro e w1 ⟨u, v, rfl, ⟨A1, n1, k1, rfl, hu⟩, ⟨A2, n2, k2, rfl, hv⟩, hb1⟩; generalize decide (y < 0) = dy at *))
    | (go_at_call 39; go_must (refine (splus_any _ _ _ _ _ _ _ ⟨A1, n1, k1, rfl, hu.below (below2 w1 _ _)⟩ ⟨A2, n2, k2, rfl, hv.below (below2 w1 _ _)⟩ mx my).mono ?_; rintro e w2 ⟨r, nr, z, rfl, hr, hz, hb2⟩; rw [ax, ay, ← Int.sub_eq_add_neg] at hz; have hb12 : Below w.heap.size w w2 := hb1.trans (((below2 w1 _ _).trans (hb2.mono (below2 w1 _ _).size)).mono hb1.size)))
    | (go_at_call 40; go_must (refine (text_any r nr z _ hr (hsl z nr hz) (ht.below hb12)).mono ?_; rintro e w3 ⟨rfl, hb3⟩; rw [hz])))
  go_wp2
  refine bodyPost_ret (v := .tuple #[.string ⟨(tText (x - y)).toArray⟩, .int .i64 (tErr (x - y))]) ?res rfl ⟨rfl, hb12.trans (hb3.mono hb12.size)⟩
  case res => simp [results, Tryz.f16, go_sem]

set_option maxRecDepth 100000 in
set_option maxHeartbeats 1000000 in
theorem add_bad (a b : ByteArray) (w : World) (hv : (validB a.data.toList && validB b.data.toList) = false) (hsa : Str a) (hsb : Str b) :
    Calls Tryz.prog 14 #[.string a, .string b] w fun e w' => e = .returned (.tuple #[.string ⟨#[]⟩, .int .i64 30]) ∧ Below w.heap.size w w' := by
  go_enter Tryz.func14, Tryz.ntmps14
  go_wp2_with (go_at_call 38; go_must (refine (both_bad a b _ hv hsa hsb).mono ?_; rintro e w1 ⟨rfl, hb1⟩))
  refine bodyPost_ret (v := .tuple #[.string ⟨#[]⟩, .int .i64 30]) ?res rfl ⟨rfl, hb1.trans ((below2 w1 _ _).mono hb1.size)⟩
  case res => simp [results, Tryz.f14, go_sem]

set_option maxRecDepth 100000 in
set_option maxHeartbeats 1000000 in
theorem sub_bad (a b : ByteArray) (w : World) (hv : (validB a.data.toList && validB b.data.toList) = false) (hsa : Str a) (hsb : Str b) :
    Calls Tryz.prog 16 #[.string a, .string b] w fun e w' => e = .returned (.tuple #[.string ⟨#[]⟩, .int .i64 30]) ∧ Below w.heap.size w w' := by
  go_enter Tryz.func16, Tryz.ntmps16
  go_wp2_with (go_at_call 38; go_must (refine (both_bad a b _ hv hsa hsb).mono ?_; rintro e w1 ⟨rfl, hb1⟩))
  refine bodyPost_ret (v := .tuple #[.string ⟨#[]⟩, .int .i64 30]) ?res rfl ⟨rfl, hb1.trans ((below2 w1 _ _).mono hb1.size)⟩
  case res => simp [results, Tryz.f16, go_sem]

set_option maxRecDepth 100000 in
set_option maxHeartbeats 1000000 in
theorem mul_bad (a b : ByteArray) (w : World) (hv : (validB a.data.toList && validB b.data.toList) = false) (hsa : Str a) (hsb : Str b) :
    Calls Tryz.prog 15 #[.string a, .string b] w fun e w' => e = .returned (.tuple #[.string ⟨#[]⟩, .int .i64 30]) ∧ Below w.heap.size w w' := by
  go_enter Tryz.func15, Tryz.ntmps15
  go_wp2_with (go_at_call 38; go_must (refine (both_bad a b _ hv hsa hsb).mono ?_; rintro e w1 ⟨rfl, hb1⟩))
  refine bodyPost_ret (v := .tuple #[.string ⟨#[]⟩, .int .i64 30]) ?res rfl ⟨rfl, hb1.trans ((below2 w1 _ _).mono hb1.size)⟩
  case res => simp [results, Tryz.f15, go_sem]

set_option maxRecDepth 100000 in
set_option maxHeartbeats 1000000 in
theorem gcd_bad (a b : ByteArray) (w : World) (hv : (validB a.data.toList && validB b.data.toList) = false) (hsa : Str a) (hsb : Str b) :
    Calls Tryz.prog 20 #[.string a, .string b] w fun e w' => e = .returned (.tuple #[.string ⟨#[]⟩, .int .i64 30]) ∧ Below w.heap.size w w' := by
  go_enter Tryz.func20, Tryz.ntmps20
  go_wp2_with (go_at_call 38; go_must (refine (both_bad a b _ hv hsa hsb).mono ?_; rintro e w1 ⟨rfl, hb1⟩))
  refine bodyPost_ret (v := .tuple #[.string ⟨#[]⟩, .int .i64 30]) ?res rfl ⟨rfl, hb1.trans ((below2 w1 _ _).mono hb1.size)⟩
  case res => simp [results, Tryz.f20, go_sem]
end Go.Proofs.YtnfkibgoockmpaaGreatDoor
