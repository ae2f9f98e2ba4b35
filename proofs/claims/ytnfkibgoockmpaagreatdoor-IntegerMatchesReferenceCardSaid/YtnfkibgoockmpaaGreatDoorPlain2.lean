/-
  Plain mathematics, second part: what Atoi makes of a numeral. No program in sight.
-/
import Derived.Test.YtnfkibgoockmpaaGreatDoorPlain
import Derived.Lib.AtoiAll
namespace Go.Proofs.YtnfkibgoockmpaaGreatDoor
open Go.Lib

theorem parse_dig : ∀ (l : List UInt8) (acc : Nat), (∀ c ∈ l, isDig c = true) → acc < 18446744073709551616 →
    parseUint10 acc l = if acc * 10 ^ l.length + evalD l < 18446744073709551616 then .ok (acc * 10 ^ l.length + evalD l) else .range := by
  intro l
  induction l with
  | nil => intro acc _ h; simp [parseUint10, evalD, h]
  | cons c l ih =>
    intro acc hd h
    have hc := hd c (List.mem_cons_self ..)
    simp [isDig] at hc
    have hl := fun x hx => hd x (List.mem_cons_of_mem _ hx)
    have e : acc * 10 ^ (c :: l).length + evalD (c :: l) = (acc * 10 + (c.toNat - 48)) * 10 ^ l.length + evalD l := by
      rw [evalD_cons, List.length_cons, Nat.pow_succ, Nat.add_mul, Nat.mul_assoc acc 10, Nat.mul_comm 10 (10 ^ l.length)]; omega
    have hge : acc * 10 + (c.toNat - 48) ≤ (acc * 10 + (c.toNat - 48)) * 10 ^ l.length := Nat.le_mul_of_pos_right _ (Nat.pow_pos (by decide))
    rw [e]
    simp only [parseUint10]
    rw [if_pos (by omega)]
    by_cases h1 : 1844674407370955162 ≤ acc
    · rw [if_pos h1, if_neg (by omega)]
    · rw [if_neg h1]
      by_cases h2 : 18446744073709551616 ≤ acc * 10 + (c.toNat - 48)
      · rw [if_pos h2, if_neg (by omega)]
      · rw [if_neg h2]; exact ih _ hl (by omega)
theorem parseMag_dec (u : Nat) : parseMag (decDigits u) = if u < 18446744073709551616 then .ok u else .range := by
  unfold parseMag
  rw [if_neg (decDigits_ne_nil u), parse_dig _ _ (decDigits_dig u) (by decide), evalD_decDigits]
  simp
/-- A machine's int. -/
def IsInt (z : Int) : Prop := -9223372036854775808 ≤ z ∧ z ≤ 9223372036854775807
instance (z : Int) : Decidable (IsInt z) := inferInstanceAs (Decidable (_ ∧ _))
theorem atoi_itoa (z : Int) : atoiAll (itoa z) = if IsInt z then .ok z else .range := by
  rcases Int.lt_or_le z 0 with h | h
  · obtain ⟨u, hu, rfl⟩ : ∃ u : Nat, 0 < u ∧ z = -(u : Int) := ⟨z.natAbs, by omega, by omega⟩
    rw [itoa_ng u hu]
    simp only [atoiAll]
    rw [if_pos (.inr rfl), parseMag_dec]
    by_cases h1 : u < 18446744073709551616
    · rw [if_pos h1]
      simp only
      rw [if_neg (by intro ⟨a, _⟩; exact a rfl)]
      by_cases h2 : 9223372036854775808 < u
      · rw [if_pos ⟨rfl, h2⟩, if_neg (by unfold IsInt; omega)]
      · rw [if_neg (by omega), if_pos (show (45 : UInt8).toNat = 45 from rfl), if_pos (show IsInt (-(u : Int)) by unfold IsInt; omega)]
    · rw [if_neg h1, if_neg (by unfold IsInt; omega)]
  · obtain ⟨u, rfl⟩ : ∃ u : Nat, z = u := ⟨z.natAbs, by omega⟩
    rw [itoa_nn]
    cases hd : decDigits u with
    | nil => exact absurd hd (decDigits_ne_nil u)
    | cons c r =>
      have hc := decDigits_dig u c (by rw [hd]; exact List.mem_cons_self ..)
      simp [isDig] at hc
      simp only [atoiAll]
      rw [if_neg (by omega), ← hd, parseMag_dec]
      by_cases h1 : u < 18446744073709551616
      · rw [if_pos h1]
        simp only
        by_cases h2 : 9223372036854775808 ≤ u
        · rw [if_pos ⟨by omega, h2⟩, if_neg (by unfold IsInt; omega)]
        · rw [if_neg (by omega), if_neg (by omega), if_neg (show ¬ c.toNat = 45 by omega), if_pos (show IsInt (u : Int) by unfold IsInt; omega)]
      · rw [if_neg h1, if_neg (by unfold IsInt; omega)]

/-! ### Quotients and remainders -/
theorem div_of {x y q r : Int} (h : r + y * q = x) (h0 : 0 ≤ r) (h1 : r < y.natAbs) : x / y = q ∧ x % y = r := by
  rcases Int.lt_trichotomy y 0 with hy | hy | hy
  · exact (Int.ediv_emod_unique' hy).2 ⟨h, h0, by omega⟩
  · omega
  · exact (Int.ediv_emod_unique hy).2 ⟨h, h0, by omega⟩
/-- The quotient of absolute values, with its sign, where nothing is to be corrected. -/
theorem div_plain (x y : Int) (hy : y ≠ 0) (h : 0 ≤ x ∨ x.natAbs % y.natAbs = 0) :
    (if (x < 0 ↔ y < 0) then ((x.natAbs / y.natAbs : Nat) : Int) else -((x.natAbs / y.natAbs : Nat) : Int)) = x / y ∧ ((x.natAbs % y.natAbs : Nat) : Int) = x % y := by
  have hdm := Nat.div_add_mod x.natAbs y.natAbs
  have hlt := Nat.mod_lt x.natAbs (show 0 < y.natAbs by omega)
  generalize x.natAbs / y.natAbs = Q at *
  generalize x.natAbs % y.natAbs = R at *
  have e : (y.natAbs : Int) * (Q : Int) + R = x.natAbs := by rw [← hdm]; simp
  rcases Int.lt_or_le x 0 with hx | hx <;> rcases Int.lt_or_le y 0 with hy' | hy'
  · rw [if_pos (by omega)]
    rw [show (y.natAbs : Int) = -y by omega, show (x.natAbs : Int) = -x by omega, Int.neg_mul] at e
    have := div_of (x := x) (y := y) (q := Q) (r := R) (by omega) (by omega) (by omega)
    exact ⟨this.1.symm, this.2.symm⟩
  · rw [if_neg (by omega)]
    rw [show (y.natAbs : Int) = y by omega, show (x.natAbs : Int) = -x by omega] at e
    have := div_of (x := x) (y := y) (q := -Q) (r := R) (by rw [Int.mul_neg]; omega) (by omega) (by omega)
    exact ⟨this.1.symm, this.2.symm⟩
  · rw [if_neg (by omega)]
    rw [show (y.natAbs : Int) = -y by omega, show (x.natAbs : Int) = x by omega, Int.neg_mul] at e
    have := div_of (x := x) (y := y) (q := -Q) (r := R) (by rw [Int.mul_neg]; omega) (by omega) (by omega)
    exact ⟨this.1.symm, this.2.symm⟩
  · rw [if_pos (by omega)]
    rw [show (y.natAbs : Int) = y by omega, show (x.natAbs : Int) = x by omega] at e
    have := div_of (x := x) (y := y) (q := Q) (r := R) (by omega) (by omega) (by omega)
    exact ⟨this.1.symm, this.2.symm⟩
/-- The same, where the remainder must not be negative. -/
theorem div_fixed (x y : Int) (hy : y ≠ 0) (hx : x < 0) (h : x.natAbs % y.natAbs ≠ 0) :
    (if (x < 0 ↔ y < 0) then ((x.natAbs / y.natAbs + 1 : Nat) : Int) else -((x.natAbs / y.natAbs + 1 : Nat) : Int)) = x / y ∧ ((y.natAbs - x.natAbs % y.natAbs : Nat) : Int) = x % y := by
  have hdm := Nat.div_add_mod x.natAbs y.natAbs
  have hlt := Nat.mod_lt x.natAbs (show 0 < y.natAbs by omega)
  generalize x.natAbs / y.natAbs = Q at *
  generalize x.natAbs % y.natAbs = R at *
  have e : (y.natAbs : Int) * (Q : Int) + R = x.natAbs := by rw [← hdm]; simp
  rcases Int.lt_or_le y 0 with hy' | hy'
  · rw [if_pos (by omega)]
    rw [show (y.natAbs : Int) = -y by omega, show (x.natAbs : Int) = -x by omega, Int.neg_mul] at e
    have := div_of (x := x) (y := y) (q := ((Q + 1 : Nat) : Int)) (r := ((y.natAbs - R : Nat) : Int)) (by rw [Int.natCast_add, Int.mul_add]; simp; omega) (by omega) (by omega)
    exact ⟨this.1.symm, this.2.symm⟩
  · rw [if_neg (by omega)]
    rw [show (y.natAbs : Int) = y by omega, show (x.natAbs : Int) = -x by omega] at e
    have := div_of (x := x) (y := y) (q := -((Q + 1 : Nat) : Int)) (r := ((y.natAbs - R : Nat) : Int)) (by rw [Int.mul_neg, Int.natCast_add, Int.mul_add]; simp; omega) (by omega) (by omega)
    exact ⟨this.1.symm, this.2.symm⟩
theorem div_fits {x y : Int} (hx : Fits x) (hy : Fits y) (hy0 : y ≠ 0) : Fits (x / y) ∧ Fits (x % y) := by
  unfold Fits at *
  generalize (10 : Nat) ^ 200 = T at *
  refine ⟨Nat.lt_of_le_of_lt (Int.natAbs_ediv_le_natAbs x y) hx, ?_⟩
  have h1 := Int.emod_nonneg x hy0
  have h2 := Int.emod_lt x hy0
  omega
end Go.Proofs.YtnfkibgoockmpaaGreatDoor
