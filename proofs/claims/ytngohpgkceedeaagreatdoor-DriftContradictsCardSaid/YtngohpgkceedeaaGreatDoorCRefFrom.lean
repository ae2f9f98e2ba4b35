/-
  The reference implementation: products of lists of digits. The reference implementation: quotients and remainders of lists of digits. The reference implementation: its exported functions on sums, products and order. The reference implementation: numbers of the machine.
-/
import Derived.Test.YtngohpgkceedeaaGreatDoorCLaw1
import Derived.Test.YtngohpgkceedeaaGreatDoorCOver
import Derived.Test.YtngohpgkceedeaaGreatDoorCRefM
namespace Go.Proofs.YtngohpgkceedeaaGreatDoor
open Go Go.RowKit Go.Lib

theorem val10_set (l : List Nat) (j d : Nat) (h : j < l.length) : val10 (l.set j d) + l.getD j 0 * 10 ^ j = val10 l + d * 10 ^ j := by
  induction l generalizing j with
  | nil => simp at h
  | cons x l ih =>
    cases j with
    | zero => simp [val10]; omega
    | succ j =>
      have := ih j (by simpa using h)
      simp only [List.set_cons_succ, val10, List.getD_cons_succ, Nat.pow_succ]
      rw [← Nat.mul_assoc, ← Nat.mul_assoc]
      omega
theorem small10_set {l : List Nat} (h : Small10 l) (j : Nat) {d : Nat} (hd : d < 10) : Small10 (l.set j d) := fun x hx => by
  rcases List.mem_or_eq_of_mem_set hx with hx | rfl
  · exact h x hx
  · exact hd
theorem small10_zeros (n : Nat) : Small10 (List.replicate n 0) := fun x hx => by
  obtain ⟨_, rfl⟩ := List.mem_replicate.1 hx
  decide
/-- What holds between two rounds of the outer loop. -/
structure TOut (a b : List Nat) (i : Nat) (o : List Nat) : Prop where
  len : o.length = a.length + b.length
  small : Small10 o
  eq : val10 o = val10 (a.take i) * val10 b
/-- What holds between two rounds of the inner loop. -/
structure TIn (a b : List Nat) (i k cr : Nat) (o : List Nat) : Prop where
  len : o.length = a.length + b.length
  small : Small10 o
  cr9 : cr ≤ 9
  eq : val10 o + cr * 10 ^ (i + k) = val10 (a.take i) * val10 b + a.getD i 0 * val10 (b.take k) * 10 ^ i
  bound : k ≤ b.length + 1
theorem TIn.start {a b : List Nat} {i : Nat} {o : List Nat} (h : TOut a b i o) : TIn a b i 0 0 o := ⟨h.len, h.small, by omega, by rw [h.eq]; simp [val10], by omega⟩
theorem TIn.room {a b : List Nat} {i k cr : Nat} {o : List Nat} (h : TIn a b i k cr o) (ha : Small10 a) (hb : Small10 b) (hi : i < a.length) (hcr : 0 < cr) : k ≤ b.length := by
  rcases Nat.lt_or_ge b.length k with hk | hk
  · exfalso
    have he := h.eq
    rw [List.take_of_length_le (by omega : b.length ≤ k)] at he
    have h1 := val10_lt (ha.take (i + 1))
    rw [take_gd, List.length_take, Nat.min_eq_left (by omega)] at h1
    have h2 := val10_lt hb
    have h3 : val10 (a.take i) * val10 b + a.getD i 0 * val10 b * 10 ^ i = (val10 (a.take i) + a.getD i 0 * 10 ^ i) * val10 b := by
      rw [Nat.add_mul]; congr 1; rw [Nat.mul_assoc, Nat.mul_comm (val10 b), ← Nat.mul_assoc]
    have h4 : (val10 (a.take i) + a.getD i 0 * 10 ^ i) * val10 b < 10 ^ (i + 1) * 10 ^ b.length := Nat.mul_lt_mul'' h1 h2
    rw [← Nat.pow_add] at h4
    have h5 : 10 ^ (i + 1 + b.length) ≤ 10 ^ (i + k) := Nat.pow_le_pow_right (by decide) (by omega)
    have h6 : 10 ^ (i + k) ≤ cr * 10 ^ (i + k) := Nat.le_mul_of_pos_left _ hcr
    omega
  · exact hk
theorem TIn.step {a b : List Nat} {i k cr : Nat} {o : List Nat} (h : TIn a b i k cr o) (ha : Small10 a) (hb : Small10 b) (hi : i < a.length) (hgo : k < b.length ∨ 0 < cr) :
    i + k < o.length ∧ TIn a b i (k + 1) ((o.getD (i + k) 0 + cr + a.getD i 0 * b.getD k 0) / 10) (o.set (i + k) ((o.getD (i + k) 0 + cr + a.getD i 0 * b.getD k 0) % 10)) := by
  have hk : k ≤ b.length := by
    rcases hgo with hg | hg
    · omega
    · exact h.room ha hb hi hg
  have hlt : i + k < o.length := by rw [h.len]; omega
  have h1 := h.small.get (i + k)
  have h2 := ha.get i
  have h3 := hb.get k
  have h4 := h.cr9
  have h5 : a.getD i 0 * b.getD k 0 ≤ 9 * 9 := Nat.mul_le_mul (by omega) (by omega)
  refine ⟨hlt, by rw [List.length_set, h.len], small10_set h.small _ (Nat.mod_lt _ (by decide)), by omega, ?_, by omega⟩
  have he := h.eq
  have hv := val10_set o (i + k) ((o.getD (i + k) 0 + cr + a.getD i 0 * b.getD k 0) % 10) hlt
  rw [take_gd b k, Nat.mul_add, Nat.add_mul]
  have e1 : a.getD i 0 * (b.getD k 0 * 10 ^ k) * 10 ^ i = a.getD i 0 * b.getD k 0 * 10 ^ (i + k) := by
    rw [Nat.pow_add, Nat.mul_comm (10 ^ i), ← Nat.mul_assoc, ← Nat.mul_assoc, Nat.mul_assoc]
  rw [e1, show i + (k + 1) = i + k + 1 by omega, Nat.pow_succ]
  generalize a.getD i 0 * b.getD k 0 = p at *
  generalize o.getD (i + k) 0 = u at *
  have hdm := Nat.div_add_mod (u + cr + p) 10
  generalize (u + cr + p) / 10 = q at *
  generalize (u + cr + p) % 10 = r at *
  generalize 10 ^ (i + k) = P at *
  have e2 : (u + cr + p) * P = (10 * q + r) * P := by rw [hdm]
  rw [Nat.add_mul, Nat.add_mul, Nat.add_mul] at e2
  have e3 : q * (P * 10) = 10 * q * P := by rw [Nat.mul_comm P 10, ← Nat.mul_assoc, Nat.mul_comm q 10]
  omega
theorem TIn.done {a b : List Nat} {i k : Nat} {o : List Nat} (h : TIn a b i k 0 o) (hk : b.length ≤ k) : TOut a b (i + 1) o := by
  have he := h.eq
  rw [List.take_of_length_le hk] at he
  refine ⟨h.len, h.small, ?_⟩
  rw [take_gd, Nat.add_mul, Nat.mul_assoc (a.getD i 0), Nat.mul_comm (10 ^ i), ← Nat.mul_assoc]
  omega
end Go.Proofs.YtngohpgkceedeaaGreatDoor
namespace Go.Proofs.YtngohpgkceedeaaGreatDoor
open Go Go.RowKit Go.Lib

theorem IsD.unique {w : World} {A : Option Addr} {n c d p q : Nat} (h : IsD w A n c p) (k : IsD w A n d q) : p = q := by
  obtain ⟨l, h1, h2, rfl, _⟩ := h
  obtain ⟨m, k1, k2, rfl, _⟩ := k
  have hl := h1.len
  have hm := k1.len
  congr 1
  refine eq_of_get (by omega) (fun j hj => ?_)
  obtain ⟨ad, e, _, hc⟩ := h1.2 (by omega)
  obtain ⟨ad', e', _, hc'⟩ := k1.2 (by omega)
  rw [e] at e'
  injection e' with e'
  subst e'
  have g1 := hc j _ (ints_get l j hj)
  have g2 := hc' j _ (ints_get m j (by omega))
  rw [g1] at g2
  injection g2 with g2
  injection g2 with _ g2
  omega
theorem IsD.setOff {W : World} {A : Option Addr} {n c x : Nat} (h : IsD W A n c x) {p : Addr} (hp : ∀ ad, A = some ad → ad.block ≠ p.block) (u : Value) : IsD (W.setCell p u) A n c x := by
  obtain ⟨l, h1, h2, h3, h4⟩ := h
  refine ⟨l, ⟨h1.1, fun hn => ?_⟩, h2, h3, h4⟩
  obtain ⟨ad, e, hlt, hc⟩ := h1.2 hn
  refine ⟨ad, e, by simpa [World.setCell] using hlt, fun j u' hu => ?_⟩
  rw [World.cell?_setCell_other W _ _ u (fun e' => hp ad e (by rw [e', block_of_add]))]
  exact hc j u' hu
theorem drop_gd (l : List Nat) (i : Nat) (h : i < l.length) : val10 (l.drop i) = l.getD i 0 + 10 * val10 (l.drop (i + 1)) := by
  rw [getD_drop l i h]; rfl
structure DOut (a q : List Nat) (m y R : Nat) : Prop where
  len : q.length = a.length
  small : Small10 q
  low : ∀ j, j < m → q.getD j 0 = 0
  lt : R < y
  eq : val10 (a.drop m) = val10 (q.drop m) * y + R
structure DIn (a q : List Nat) (i y R : Nat) : Prop where
  len : q.length = a.length
  small : Small10 q
  low : ∀ j, j < i → q.getD j 0 = 0
  bnd : R + q.getD i 0 * y < 10 * y
  eq : val10 (a.drop i) = val10 (q.drop i) * y + R
theorem DOut.start (a : List Nat) (y : Nat) (hy : 0 < y) : DOut a (List.replicate a.length 0) a.length y 0 :=
  ⟨by simp, small10_zeros _, fun j hj => by rw [List.getD_eq_getElem?_getD, List.getElem?_replicate, if_pos hj]; rfl, hy, by simp [val10]⟩
theorem DIn.step {a q : List Nat} {i y R : Nat} (h : DIn a q i y R) (hi : i < a.length) (hR : y ≤ R) : DIn a (q.set i (q.getD i 0 + 1)) i y (R - y) ∧ q.getD i 0 + 1 ≤ 9 := by
  have hb := h.bnd
  have hlt : i < q.length := by rw [h.len]; exact hi
  have h9 : q.getD i 0 + 1 ≤ 9 := by
    rcases Nat.lt_or_ge 9 (q.getD i 0 + 1) with h1 | h1
    · exfalso
      have : 9 * y ≤ q.getD i 0 * y := Nat.mul_le_mul_right _ (by omega)
      omega
    · exact h1
  have e1 : (q.set i (q.getD i 0 + 1)).getD i 0 = q.getD i 0 + 1 := by
    rw [List.getD_eq_getElem?_getD, List.getElem?_set_self hlt]; rfl
  have e2 : (q.set i (q.getD i 0 + 1)).drop (i + 1) = q.drop (i + 1) := by
    rw [List.drop_set]; simp
  refine ⟨⟨by rw [List.length_set, h.len], small10_set h.small _ (by omega), fun j hj => ?_, ?_, ?_⟩, h9⟩
  · rw [List.getD_eq_getElem?_getD, List.getElem?_set_ne (by omega), ← List.getD_eq_getElem?_getD]
    exact h.low j hj
  · rw [e1, Nat.add_mul]; omega
  · rw [drop_gd (q.set i (q.getD i 0 + 1)) i (by rw [List.length_set]; exact hlt), e1, e2, h.eq, drop_gd q i hlt]
    obtain ⟨Z, hZ⟩ : ∃ Z, Z = q.getD i 0 + 10 * val10 (q.drop (i + 1)) := ⟨_, rfl⟩
    rw [show q.getD i 0 + 1 + 10 * val10 (q.drop (i + 1)) = Z + 1 by omega, ← hZ, Nat.add_mul, Nat.one_mul]
    omega
theorem DOut.done {a q : List Nat} {y R : Nat} (h : DOut a q 0 y R) : val10 q = val10 a / y ∧ R = val10 a % y := by
  have := h.eq
  rw [List.drop_zero, List.drop_zero] at this
  exact div_unique' this h.lt
end Go.Proofs.YtngohpgkceedeaaGreatDoor
namespace Go.Proofs.YtngohpgkceedeaaGreatDoor
open Go Go.RowKit Go.Lib Go.Shelf

theorem IsD.bound {w : World} {A : Option Addr} {n c x : Nat} (h : IsD w A n c x) : x < 10 ^ n := by
  obtain ⟨l, h1, h2, rfl, _⟩ := h
  rw [h1.len]; exact val10_lt h2.1
end Go.Proofs.YtngohpgkceedeaaGreatDoor
namespace Go.Proofs.YtngohpgkceedeaaGreatDoor
open Go Go.RowKit Go.Lib Go.Shelf

/-- The digits that have been taken off. -/
structure FInv (u m : Nat) (l : List Nat) : Prop where
  small : Small10 l
  eq : val10 l + 10 ^ l.length * m = u
  top : l ≠ [] → 10 ^ (l.length - 1) ≤ u
theorem FInv.start (u : Nat) : FInv u u [] := ⟨small10_nil, by simp [val10], fun h => absurd rfl h⟩
theorem FInv.step {u m : Nat} {l : List Nat} (h : FInv u m l) (hm : 0 < m) : FInv u (m / 10) (l ++ [m % 10]) := by
  have he := h.eq
  have hdm := Nat.div_add_mod m 10
  refine ⟨h.small.append (Small10.mk (Nat.mod_lt _ (by decide)) small10_nil), ?_, fun _ => ?_⟩
  · rw [val10_snoc, List.length_append, List.length_cons, List.length_nil, Nat.zero_add, Nat.pow_succ]
    generalize m / 10 = q at *
    generalize m % 10 = r at *
    rw [← hdm, Nat.mul_add] at he
    rw [Nat.mul_comm r, Nat.mul_assoc]
    omega
  · rw [List.length_append, List.length_cons, List.length_nil, Nat.zero_add, Nat.add_sub_cancel]
    have : 10 ^ l.length ≤ 10 ^ l.length * m := Nat.le_mul_of_pos_right _ hm
    omega
theorem FInv.len {u m : Nat} {l : List Nat} (h : FInv u m l) (hu : u ≤ 9223372036854775808) : l.length ≤ 19 := by
  by_cases hl : l = []
  · subst hl; simp
  · have h1 := h.top hl
    have h2 : (10 : Nat) ^ (l.length - 1) < 10 ^ 19 := by
      have : (9223372036854775808 : Nat) < 10 ^ 19 := by decide
      omega
    have := (Nat.pow_lt_pow_iff_right (by decide : 1 < 10)).1 h2
    omega
theorem FInv.done {u : Nat} {l : List Nat} (h : FInv u 0 l) : Norm10 l ∧ val10 l = u := by
  have hv : val10 l = u := by have := h.eq; omega
  refine ⟨?_, hv⟩
  by_cases hl : l = []
  · subst hl; exact norm10_nil
  · exact norm10_of_ge h.small hl (by rw [hv]; exact h.top hl)
end Go.Proofs.YtngohpgkceedeaaGreatDoor
