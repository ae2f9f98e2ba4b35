/-
  nines and pick, and the numbers near the limit.
-/
import Derived.Test.YtnfkibgoockmpaaGreatDoorLaw2
namespace Go.Proofs.YtnfkibgoockmpaaGreatDoor
open Go Go.RowKit Go.Lib Go.Shelf

/-- So many nines. -/
def nn (k : Nat) : ByteArray := ⟨(List.replicate k 57).toArray⟩
theorem nn_succ (k : Nat) : nn k ++ (⟨#[57]⟩ : ByteArray) = nn (k + 1) := by
  apply ba_ext
  show (nn k ++ (⟨#[57]⟩ : ByteArray)).data.toList = _
  rw [ByteArray.data_append]
  unfold nn
  simp [List.replicate_succ']
theorem nn_size (k : Nat) : (nn k).size = k := by unfold nn ByteArray.size; simp
theorem nn_zero : nn 0 = ⟨#[]⟩ := rfl
theorem evalD_nines (k : Nat) : evalD (List.replicate k 57) + 1 = 10 ^ k := by
  induction k with
  | zero => rfl
  | succ k ih =>
    rw [List.replicate_succ', evalD_snoc, Nat.pow_succ]
    have : (57 : UInt8).toNat = 57 := rfl
    omega
theorem is_nn (k : Nat) (h : 0 < k) : Is (nn k) (10 ^ k - 1) := by
  have h1 := evalD_nines k
  have hg : goodD (List.replicate k 57) := ⟨by simp; omega, fun c hc => by obtain ⟨_, rfl⟩ := List.mem_replicate.1 hc; rfl, .inr (by cases k with | zero => omega | succ k => simp [List.replicate_succ])⟩
  have h2 := good_eq hg
  unfold Is nn
  rw [show ((10 : Int) ^ k - 1) = ((evalD (List.replicate k 57) : Nat) : Int) by
    have : ((10 ^ k : Nat) : Int) = (10 : Int) ^ k := by simp
    omega, itoa_nn, ← h2]
theorem is_one_nn (k : Nat) : Is ((⟨#[49]⟩ : ByteArray) ++ nn k) (2 * 10 ^ k - 1) := by
  have h1 := evalD_nines k
  have hg : goodD (49 :: List.replicate k 57) := ⟨by simp, fun c hc => by
    rcases List.mem_cons.1 hc with rfl | hc
    · rfl
    · obtain ⟨_, rfl⟩ := List.mem_replicate.1 hc; rfl, .inr (by simp)⟩
  have h2 := good_eq hg
  have e : ((⟨#[49]⟩ : ByteArray) ++ nn k).data.toList = 49 :: List.replicate k 57 := by
    rw [ByteArray.data_append]
    unfold nn
    simp
  unfold Is
  have h3 : evalD (49 :: List.replicate k 57) + 1 = 2 * 10 ^ k := by
    rw [evalD_cons, List.length_replicate]
    have : (49 : UInt8).toNat - 48 = 1 := rfl
    rw [this]
    omega
  rw [e, show (2 * (10 : Int) ^ k - 1) = ((evalD (49 :: List.replicate k 57) : Nat) : Int) by
    have : ((10 ^ k : Nat) : Int) = (10 : Int) ^ k := by simp
    omega, itoa_nn, ← h2]
theorem is_minus {z : Int} (h : 0 < z) : Is ((⟨#[45]⟩ : ByteArray) ++ S z) (-z) := by
  have e : ((⟨#[45]⟩ : ByteArray) ++ S z).data.toList = 45 :: itoa z := by
    rw [ByteArray.data_append]
    unfold S
    simp
  unfold Is
  obtain ⟨u, rfl⟩ : ∃ u : Nat, z = u := ⟨z.natAbs, by omega⟩
  rw [e, itoa_nn, itoa_ng u (by omega)]
set_option maxHeartbeats 400000 in
theorem nines_any (k : Nat) (w : World) (hk : k ≤ 1000) : Calls Tryz.prog 22 #[.int .i64 (k : Int)] w fun e w' => e = .returned (.string (nn k)) ∧ w' = w := by
  go_enter Tryz.func22, Tryz.ntmps22
  go_wp2
  go_loop [3, 4] (fun v i => ∃ j : Nat, j ≤ k ∧ i = .int .i64 (j : Int) ∧ v = .string (nn j)) (fun _ i => k - (intOf i).toNat)
  case atStart => exact ⟨0, Nat.zero_le _, rfl, rfl⟩
  case round =>
    obtain ⟨j, hj, rfl, rfl⟩ := hrel
    have hs := nn_size j
    by_cases hlt : j < k
    · have h1 := nn_succ j
      go_wp2
      go_round
      case rel => exact ⟨j + 1, by omega, by go_num, rfl⟩
      case measure => simp [intOf]; omega
    · obtain rfl : j = k := by omega
      go_wp2
      go_ret
      exact ⟨rfl, rfl⟩
theorem ret_int {k : IntKind} {a b : Int} (h : a = b) : Ending.returned (.int k a) = .returned (.int k b) := by rw [h]
theorem pick_any (c : Int) (w : World) (h0 : -9223372036854775808 ≤ c) (h1 : c ≤ 9223372036854775807) : Calls Tryz.prog 23 #[.int .i64 c, .int .i64 200] w fun e w' => (∃ k : Nat, k < 200 ∧ e = .returned (.int .i64 (k : Int))) ∧ w' = w := by
  by_cases hc : c < 0
  · go_enter Tryz.func23, Tryz.ntmps23
    have hw : IntKind.i64.wrap (-(c + 1)) = -(c + 1) := by rw [IntKind.wrap_i64]; omega
    go_wp2
    go_ret
    refine ⟨⟨((-(c + 1)) % 200).toNat, by omega, ret_int ?_⟩, rfl⟩
    rw [← Int.neg_tmod, Int.tmod_eq_emod_of_nonneg (by omega)]
    omega
  · go_enter Tryz.func23, Tryz.ntmps23
    go_wp2
    go_ret
    exact ⟨⟨(c % 200).toNat, by omega, ret_int (by omega)⟩, rfl⟩

/-! ### The numbers -/
theorem pow_dig (k : Nat) : Dig (k + 1) ((10 : Int) ^ k) := by
  unfold Dig
  rw [show ((10 : Int) ^ k) = ((10 ^ k : Nat) : Int) by simp, Int.natAbs_natCast]
  exact Nat.pow_lt_pow_right (by decide) (by omega)
theorem pow_pos' (k : Nat) : 0 < (10 : Int) ^ k := Int.pow_pos (by decide)
/-- The product of 10 ^ m and 2 * 10 ^ n - 1 has m + n + 1 digits. -/
theorem prod_digits (m n : Nat) : (decDigits ((10 : Int) ^ m * (2 * 10 ^ n - 1)).natAbs).length = m + n + 1 := by
  have hm : 0 < 10 ^ m := Nat.pow_pos (by decide)
  have hn : 0 < 10 ^ n := Nat.pow_pos (by decide)
  have e : ((10 : Int) ^ m * (2 * 10 ^ n - 1)).natAbs = 10 ^ m * (2 * 10 ^ n - 1) := by
    rw [Int.natAbs_mul, show ((10 : Int) ^ m) = ((10 ^ m : Nat) : Int) by simp, Int.natAbs_natCast]
    congr 1
    · rw [show (2 * (10 : Int) ^ n - 1) = ((2 * 10 ^ n - 1 : Nat) : Int) by
        rw [Int.natCast_sub (by omega)]; simp, Int.natAbs_natCast]
  rw [e]
  have hlo : 10 ^ (m + n) ≤ 10 ^ m * (2 * 10 ^ n - 1) := by rw [Nat.pow_add]; exact Nat.mul_le_mul_left _ (by omega)
  have hhi : 10 ^ m * (2 * 10 ^ n - 1) < 10 ^ (m + n + 1) := by
    rw [Nat.pow_succ, Nat.pow_add, Nat.mul_assoc]
    exact Nat.mul_lt_mul_of_pos_left (by omega) hm
  have h1 := (dec_lt (10 ^ m * (2 * 10 ^ n - 1)) (m + n + 1) (by omega)).2 hhi
  have h2 : ¬ (decDigits (10 ^ m * (2 * 10 ^ n - 1))).length ≤ m + n := by
    intro h
    rcases Nat.eq_zero_or_pos (m + n) with e | e
    · have := dec_len_pos (10 ^ m * (2 * 10 ^ n - 1)); omega
    · have := (dec_lt _ (m + n) e).1 h; omega
  omega
theorem prod_fits (m n : Nat) : Fits ((10 : Int) ^ m * (2 * 10 ^ n - 1)) ↔ m + n < 200 := by
  rw [← fits_iff, prod_digits]; omega
theorem prod_size (m n : Nat) : (S ((10 : Int) ^ m * (2 * 10 ^ n - 1))).size = m + n + 1 := by
  have e : ∀ z : Int, (S z).size = (itoa z).length := fun z => by unfold S ByteArray.size; simp
  rw [e, ← prod_digits m n]
  have hp : 0 < (10 : Int) ^ m * (2 * 10 ^ n - 1) := Int.mul_pos (pow_pos' m) (by have := pow_pos' n; omega)
  generalize (10 : Int) ^ m * (2 * 10 ^ n - 1) = z at *
  obtain ⟨u, rfl⟩ : ∃ u : Nat, z = u := ⟨z.natAbs, by omega⟩
  rw [itoa_nn, Int.natAbs_natCast]
theorem two_fits {n : Nat} (h : n < 200) : Fits (2 * (10 : Int) ^ n - 1) := by
  have := prod_fits 0 n
  simp only [Int.pow_zero, Int.one_mul] at this
  exact this.2 (by omega)
/-- The greatest number. -/
theorem most_facts : ∃ T : Int, T = 10 ^ 200 - 1 ∧ Fits T ∧ 100000 < T ∧ ∀ z : Int, Fits z ↔ -T ≤ z ∧ z ≤ T := by
  refine ⟨_, rfl, ?_⟩
  have h : ((10 ^ 200 : Nat) : Int) = (10 : Int) ^ 200 := by simp
  have h2 : (100001 : Nat) < 10 ^ 200 := by decide +kernel
  unfold Fits
  rw [← h]
  generalize (10 : Nat) ^ 200 = U at *
  exact ⟨by omega, by omega, fun z => by omega⟩
theorem over_invalid : validB (nn 201).data.toList = false := by decide +kernel
end Go.Proofs.YtnfkibgoockmpaaGreatDoor
