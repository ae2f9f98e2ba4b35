/-
  Plain mathematics, third part: how many digits sums and products have; digits in base ten; common divisors. No program in sight.
-/
import Derived.Test.YtnfkibgoockmpaaGreatDoorPlain2
namespace Go.Proofs.YtnfkibgoockmpaaGreatDoor
open Go.Lib

/-- At most k digits. -/
def Dig (k : Nat) (z : Int) : Prop := z.natAbs < 10 ^ k
theorem Dig.mono {j k : Nat} {z : Int} (h : Dig j z) (hjk : j ≤ k) : Dig k z := Nat.lt_of_lt_of_le h (Nat.pow_le_pow_right (by decide) hjk)
theorem Dig.fits {k : Nat} {z : Int} (h : Dig k z) (hk : k ≤ 200) : Fits z := h.mono hk
theorem Fits.dig {z : Int} (h : Fits z) : Dig 200 z := h
theorem Dig.neg {k : Nat} {x : Int} (h : Dig k x) : Dig k (-x) := by unfold Dig at *; rwa [Int.natAbs_neg]
theorem Dig.add {k : Nat} {x y : Int} (h : Dig k x) (h' : Dig k y) : Dig (k + 1) (x + y) := by
  unfold Dig at *
  have := Int.natAbs_add_le x y
  rw [Nat.pow_succ]
  omega
theorem Dig.sub {k : Nat} {x y : Int} (h : Dig k x) (h' : Dig k y) : Dig (k + 1) (x - y) := by
  rw [Int.sub_eq_add_neg]; exact h.add h'.neg
theorem Dig.mul {j k : Nat} {x y : Int} (h : Dig j x) (h' : Dig k y) : Dig (j + k) (x * y) := by
  unfold Dig at *
  rw [Int.natAbs_mul, Nat.pow_add]
  exact Nat.mul_lt_mul'' h h'
theorem Dig.of_le {k : Nat} {x y : Int} (h : Dig k y) (hxy : x.natAbs ≤ y.natAbs) : Dig k x := Nat.lt_of_le_of_lt hxy h
theorem Dig.ediv {k : Nat} {x : Int} (h : Dig k x) (y : Int) : Dig k (x / y) := h.of_le (Int.natAbs_ediv_le_natAbs x y)
theorem Dig.emod {k : Nat} {y : Int} (x : Int) (h : Dig k y) (hy : y ≠ 0) : Dig k (x % y) := h.of_le (by
  have h1 := Int.emod_nonneg x hy
  have h2 := Int.emod_lt x hy
  omega)
theorem dig_small {k : Nat} {z : Int} (h : z.natAbs < 10) (hk : 0 < k) : Dig k z := by
  have : (10 : Nat) ^ 1 ≤ 10 ^ k := Nat.pow_le_pow_right (by decide) hk
  unfold Dig; omega
theorem dig_int {z : Int} (h : IsInt z) : Dig 19 z := by unfold IsInt at h; unfold Dig; omega

/-! ### Digits in base ten, the lowest first -/
def val10 : List Nat → Nat
  | [] => 0
  | d :: l => d + 10 * val10 l
def Small10 (l : List Nat) : Prop := ∀ d ∈ l, d < 10
def Norm10 (l : List Nat) : Prop := Small10 l ∧ l.getLast? ≠ some 0
theorem small10_nil : Small10 [] := fun _ h => by cases h
theorem norm10_nil : Norm10 [] := ⟨small10_nil, by simp⟩
theorem Small10.cons {d : Nat} {l : List Nat} (h : Small10 (d :: l)) : d < 10 ∧ Small10 l := ⟨h d (List.mem_cons_self ..), fun x hx => h x (List.mem_cons_of_mem _ hx)⟩
theorem Small10.mk {d : Nat} {l : List Nat} (h : d < 10) (hl : Small10 l) : Small10 (d :: l) := fun x hx => by
  rcases List.mem_cons.1 hx with rfl | hx
  · exact h
  · exact hl x hx
theorem Small10.append {l m : List Nat} (h : Small10 l) (hm : Small10 m) : Small10 (l ++ m) := fun x hx => by
  rcases List.mem_append.1 hx with hx | hx
  · exact h x hx
  · exact hm x hx
theorem Small10.take {l : List Nat} (h : Small10 l) (k : Nat) : Small10 (l.take k) := fun x hx => h x (List.mem_of_mem_take hx)
theorem Small10.get {l : List Nat} (h : Small10 l) (k : Nat) : l.getD k 0 < 10 := by
  rw [List.getD_eq_getElem?_getD]
  cases e : l[k]? with
  | none => simp
  | some x => exact h x (List.mem_of_getElem? e)
theorem val10_append (l m : List Nat) : val10 (l ++ m) = val10 l + 10 ^ l.length * val10 m := by
  induction l with
  | nil => simp [val10]
  | cons d l ih =>
    simp only [List.cons_append, val10, ih, List.length_cons, Nat.pow_succ]
    rw [Nat.mul_add, Nat.mul_comm (10 ^ l.length) 10, Nat.mul_assoc]
    omega
theorem val10_snoc (l : List Nat) (d : Nat) : val10 (l ++ [d]) = val10 l + d * 10 ^ l.length := by
  rw [val10_append]; simp only [val10, Nat.mul_zero, Nat.add_zero]; rw [Nat.mul_comm]
theorem val10_lt {l : List Nat} (h : Small10 l) : val10 l < 10 ^ l.length := by
  induction l with
  | nil => simp [val10]
  | cons d l ih =>
    have h1 := ih h.cons.2
    have h2 := h.cons.1
    simp only [val10, List.length_cons, Nat.pow_succ]
    omega
theorem val10_zeros (l : List Nat) (k : Nat) (hz : ∀ j, k ≤ j → l.getD j 0 = 0) : val10 (l.take k) = val10 l := by
  induction l generalizing k with
  | nil => simp
  | cons d l ih =>
    cases k with
    | zero =>
      have h0 := hz 0 (Nat.le_refl _)
      simp only [List.getD_cons_zero] at h0
      have h1 := ih 0 (fun j _ => by have := hz (j + 1) (by omega); simpa only [List.getD_cons_succ] using this)
      simp only [List.take_zero, val10] at h1 ⊢
      omega
    | succ k =>
      have h1 := ih k (fun j hj => by have := hz (j + 1) (by omega); simpa only [List.getD_cons_succ] using this)
      simp only [List.take_succ_cons, val10, h1]
theorem norm10_take {l : List Nat} (h : Small10 l) (k : Nat) (hk : k ≤ l.length) (hne : 0 < k → l.getD (k - 1) 0 ≠ 0) : Norm10 (l.take k) := by
  refine ⟨h.take k, ?_⟩
  intro e
  rw [List.getLast?_eq_getElem?, List.length_take, Nat.min_eq_left hk] at e
  rcases Nat.eq_zero_or_pos k with rfl | hp
  · simp at e
  · rw [List.getElem?_take_of_lt (by omega)] at e
    apply hne hp
    rw [List.getD_eq_getElem?_getD, e]; rfl
/-- The digits as text, the highest first. -/
def txt10 (l : List Nat) : List UInt8 := l.reverse.map fun d => UInt8.ofNat (48 + d)
theorem txt10_snoc (l : List Nat) (d : Nat) : txt10 (l ++ [d]) = UInt8.ofNat (48 + d) :: txt10 l := by simp [txt10]
theorem txt10_cons (l : List Nat) (d : Nat) : txt10 (d :: l) = txt10 l ++ [UInt8.ofNat (48 + d)] := by simp [txt10]
theorem evalD_txt10 {l : List Nat} (h : Small10 l) : evalD (txt10 l) = val10 l := by
  induction l with
  | nil => rfl
  | cons d l ih =>
    rw [txt10_cons, evalD_snoc, ih h.cons.2, toNat_dig d h.cons.1]
    simp only [val10]; omega
theorem txt10_dig {l : List Nat} (h : Small10 l) : ∀ c ∈ txt10 l, isDig c = true := by
  intro c hc
  obtain ⟨d, hd, rfl⟩ := List.mem_map.1 hc
  exact isDig_ofNat d (h d (List.mem_reverse.1 hd))
theorem txt10_norm {l : List Nat} (h : Norm10 l) (hn : l ≠ []) : txt10 l = decDigits (val10 l) := by
  rw [← evalD_txt10 h.1]
  apply good_eq
  refine ⟨by simpa [txt10] using hn, txt10_dig h.1, .inr ?_⟩
  obtain ⟨m, d, rfl⟩ : ∃ m d, l = m ++ [d] := ⟨l.dropLast, l.getLast hn, (List.dropLast_concat_getLast hn).symm⟩
  rw [txt10_snoc]
  simp only [List.head?_cons]
  intro e
  injection e with e
  have hd : d < 10 := h.1 d (by simp)
  have h1 := congrArg UInt8.toNat e
  rw [toNat_dig d hd] at h1
  have h2 : d = 0 := by simpa using h1
  exact h.2 (by simp [h2])
theorem Norm10.val_pos {l : List Nat} (h : Norm10 l) (hn : l ≠ []) : 0 < val10 l := by
  have h1 := txt10_norm h hn
  rcases Nat.eq_zero_or_pos (val10 l) with e | e
  · exfalso
    rw [e, decDigits_zero] at h1
    obtain ⟨m, d, rfl⟩ : ∃ m d, l = m ++ [d] := ⟨l.dropLast, l.getLast hn, (List.dropLast_concat_getLast hn).symm⟩
    rw [txt10_snoc] at h1
    injection h1 with h1 _
    have hd : d < 10 := h.1 d (by simp)
    have h3 := congrArg UInt8.toNat h1
    rw [toNat_dig d hd] at h3
    have h2 : d = 0 := by simpa using h3
    exact h.2 (by simp [h2])
  · exact e

/-! ### Common divisors -/
theorem gcd_ediv {x y : Int} {g : Nat} (hg : g = x.natAbs.gcd y.natAbs) (h0 : 0 < g) : x % (g : Int) = 0 ∧ y % (g : Int) = 0 ∧ (x / (g : Int)).natAbs.gcd (y / (g : Int)).natAbs = 1 := by
  have hx : (g : Int) ∣ x := Int.ofNat_dvd_left.2 (by rw [hg]; exact Nat.gcd_dvd_left _ _)
  have hy : (g : Int) ∣ y := Int.ofNat_dvd_left.2 (by rw [hg]; exact Nat.gcd_dvd_right _ _)
  refine ⟨Int.emod_eq_zero_of_dvd hx, Int.emod_eq_zero_of_dvd hy, ?_⟩
  obtain ⟨p, rfl⟩ := hx
  obtain ⟨q, rfl⟩ := hy
  rw [Int.mul_ediv_cancel_left _ (by omega), Int.mul_ediv_cancel_left _ (by omega)]
  rw [Int.natAbs_mul, Int.natAbs_mul, Int.natAbs_natCast, Nat.gcd_mul_left] at hg
  exact Nat.eq_of_mul_eq_mul_left h0 (by omega)
theorem gcd_mul' (x y z : Int) : ((x * z).natAbs.gcd (y * z).natAbs) = x.natAbs.gcd y.natAbs * z.natAbs := by
  rw [Int.natAbs_mul, Int.natAbs_mul, Nat.gcd_mul_right]

/-- The string that spells an integer. -/
def S (z : Int) : ByteArray := ⟨(itoa z).toArray⟩
/-- The string spells the integer. -/
def Is (a : ByteArray) (z : Int) : Prop := a.data.toList = itoa z
theorem is_S (z : Int) : Is (S z) z := by unfold Is S; simp
theorem Is.eq {a : ByteArray} {z : Int} (h : Is a z) : a = S z := by
  unfold Is at h
  unfold S
  rw [← h]
theorem S_inj {x y : Int} (h : S x = S y) : x = y := by
  have h1 := is_S x
  have h2 := is_S y
  rw [h] at h1
  exact itoa_inj (h1.symm.trans h2)
theorem S_size {z : Int} (h : Fits z) : (S z).size ≤ 201 := by
  have e : (S z).size = (itoa z).length := by unfold S ByteArray.size; simp
  rw [e]
  have h1 := (fits_iff z).2 h
  have h2 := body_itoa z
  have h3 : (itoa z).length ≤ (body (itoa z)).length + 1 := by
    unfold body
    split
    · rw [List.length_tail]; omega
    · omega
  rw [h2] at h3
  omega
end Go.Proofs.YtnfkibgoockmpaaGreatDoor
