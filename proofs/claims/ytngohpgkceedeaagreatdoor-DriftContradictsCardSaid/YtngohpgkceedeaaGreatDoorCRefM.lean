/-
  The reference implementation: trim, text and Made. The reference implementation: sums and differences of lists of digits.
-/
import Derived.Deep.DeepMust
import Derived.Deep.RegionHeld3
import Derived.IntWalk
import Derived.Laws.BytesArg
import Derived.Lib.IndexBytes
import Derived.Lib.UnsafeStr
import Derived.Test.YtngohpgkceedeaaGreatDoorCCmp
import Derived.Test.YtngohpgkceedeaaGreatDoorCPlain3
namespace Go.Proofs.YtngohpgkceedeaaGreatDoor
open Go Go.RowKit Go.Lib

def pre (neg : Bool) : List UInt8 := if neg then [45] else []
end Go.Proofs.YtngohpgkceedeaaGreatDoor

namespace Go.Proofs.YtngohpgkceedeaaGreatDoor
open Go Go.RowKit Go.Lib

end Go.Proofs.YtngohpgkceedeaaGreatDoor

namespace Go.Proofs.YtngohpgkceedeaaGreatDoor
open Go Go.RowKit Go.Lib

/-- The slice holds the digits of x, the lowest first. -/
def IsD (w : World) (A : Option Addr) (n c x : Nat) : Prop := ∃ l, NumV w A n l ∧ Norm10 l ∧ val10 l = x ∧ n ≤ c
theorem IsD.below {w w' : World} {A : Option Addr} {n c x : Nat} (h : IsD w A n c x) (hb : Below w.heap.size w w') : IsD w' A n c x :=
  let ⟨l, h1, h2, h3, h4⟩ := h; ⟨l, h1.below hb, h2, h3, h4⟩
theorem Norm10.length_le {l : List Nat} (h : Norm10 l) {K : Nat} (hv : val10 l < 10 ^ K) : l.length ≤ K := by
  by_cases hn : l = []
  · subst hn; simp
  · have h1 := txt10_norm h hn
    have h2 : l.length = (decDigits (val10 l)).length := by rw [← h1]; simp [txt10]
    rcases Nat.eq_zero_or_pos K with e | e
    · subst e
      have := h.val_pos hn
      simp at hv
      omega
    · rw [h2]; exact (dec_lt _ K e).2 hv
theorem IsD.le {w : World} {A : Option Addr} {n c x : Nat} (h : IsD w A n c x) {K : Nat} (hx : x < 10 ^ K) : n ≤ K := by
  obtain ⟨l, h1, h2, h3, _⟩ := h
  rw [h1.len]
  exact h2.length_le (by rw [h3]; exact hx)
theorem Norm10.val_zero {l : List Nat} (h : Norm10 l) : val10 l = 0 ↔ l = [] := by
  constructor
  · intro e
    by_cases hl : l = []
    · exact hl
    · have := h.val_pos hl; omega
  · rintro rfl; rfl
theorem IsD.zero {w : World} {A : Option Addr} {n c x : Nat} (h : IsD w A n c x) : n = 0 ↔ x = 0 := by
  obtain ⟨l, h1, h2, h3, _⟩ := h
  rw [h1.len, ← h3, h2.val_zero]
  exact List.length_eq_zero_iff
end Go.Proofs.YtngohpgkceedeaaGreatDoor

namespace Go.Proofs.YtngohpgkceedeaaGreatDoor
open Go Go.RowKit Go.Lib

theorem Norm10.val_ge {l : List Nat} (h : Norm10 l) (hn : l ≠ []) : 10 ^ (l.length - 1) ≤ val10 l := by
  have h1 := txt10_norm h hn
  have h2 : l.length = (decDigits (val10 l)).length := by rw [← h1]; simp [txt10]
  rcases Nat.lt_or_ge (val10 l) (10 ^ (l.length - 1)) with h3 | h3
  · exfalso
    have h0 : 0 < l.length := List.length_pos_iff.2 hn
    rcases Nat.eq_zero_or_pos (l.length - 1) with e | e
    · rw [e] at h3
      have := h.val_pos hn
      simp at h3
      omega
    · have := (dec_lt _ _ e).2 h3
      omega
  · exact h3
theorem Norm10.lt_of_length {l m : List Nat} (h : Norm10 l) (hm : Norm10 m) (hlt : l.length < m.length) : val10 l < val10 m := by
  have h1 := val10_lt h.1
  have h2 := hm.val_ge (by rintro rfl; simp at hlt)
  have h3 : 10 ^ l.length ≤ 10 ^ (m.length - 1) := Nat.pow_le_pow_right (by decide) (by omega)
  omega
end Go.Proofs.YtngohpgkceedeaaGreatDoor
namespace Go.Proofs.YtngohpgkceedeaaGreatDoor
open Go Go.RowKit Go.Lib

theorem take_gd (l : List Nat) (k : Nat) : val10 (l.take (k + 1)) = val10 (l.take k) + l.getD k 0 * 10 ^ k := by
  rcases Nat.lt_or_ge k l.length with h | h
  · have e : l.take (k + 1) = l.take k ++ [l.getD k 0] := by
      rw [List.take_succ_eq_append_getElem h, List.getD_eq_getElem?_getD, List.getElem?_eq_getElem h]; rfl
    rw [e, val10_snoc, List.length_take, Nat.min_eq_left (by omega)]
  · have e0 : l.getD k 0 = 0 := by rw [List.getD_eq_getElem?_getD, List.getElem?_eq_none h]; rfl
    rw [e0, List.take_of_length_le (by omega), List.take_of_length_le (by omega)]
    simp
theorem norm10_of_ge {l : List Nat} (h : Small10 l) (hn : l ≠ []) (hv : 10 ^ (l.length - 1) ≤ val10 l) : Norm10 l := by
  refine ⟨h, fun e => ?_⟩
  obtain ⟨m, d, rfl⟩ : ∃ m d, l = m ++ [d] := ⟨l.dropLast, l.getLast hn, (List.dropLast_concat_getLast hn).symm⟩
  simp at e
  subst e
  have h1 := val10_lt (fun x hx => h x (List.mem_append_left _ hx) : Small10 m)
  rw [val10_snoc, List.length_append] at hv
  simp at hv
  omega
/-- What holds of a sum's first digits. -/
structure PInv (a b : List Nat) (k cr : Nat) (l : List Nat) : Prop where
  len : l.length = k
  small : Small10 l
  cr1 : cr ≤ 1
  eq : val10 l + cr * 10 ^ k = val10 (a.take k) + val10 (b.take k)
  bound : (k ≤ a.length ∨ k ≤ b.length) ∨ (k = max a.length b.length + 1 ∧ cr = 0 ∧ 10 ^ (k - 1) ≤ val10 a + val10 b)
theorem PInv.start (a b : List Nat) : PInv a b 0 0 [] := ⟨rfl, small10_nil, by omega, by simp [val10], .inl (.inl (by omega))⟩
theorem PInv.step {a b : List Nat} {k cr : Nat} {l : List Nat} (h : PInv a b k cr l) (ha : Small10 a) (hb : Small10 b) (hgo : (k < a.length ∨ k < b.length) ∨ 0 < cr) :
    PInv a b (k + 1) ((cr + a.getD k 0 + b.getD k 0) / 10) (l ++ [(cr + a.getD k 0 + b.getD k 0) % 10]) := by
  have h1 := ha.get k
  have h2 := hb.get k
  have ta := take_gd a k
  have tb := take_gd b k
  have hc := h.cr1
  refine ⟨by rw [List.length_append, h.len]; rfl, h.small.append (Small10.mk (Nat.mod_lt _ (by decide)) small10_nil), by omega, ?_, ?_⟩
  · rw [val10_snoc, h.len, ta, tb, Nat.pow_succ]
    have he := h.eq
    generalize a.getD k 0 = x at *
    generalize b.getD k 0 = y at *
    have hdm := Nat.div_add_mod (cr + x + y) 10
    generalize (cr + x + y) / 10 = q at *
    generalize (cr + x + y) % 10 = r at *
    generalize 10 ^ k = P at *
    have e1 : (cr + x + y) * P = (10 * q + r) * P := by rw [hdm]
    rw [Nat.add_mul, Nat.add_mul, Nat.add_mul] at e1
    have e2 : q * (P * 10) = 10 * q * P := by rw [Nat.mul_comm P 10, ← Nat.mul_assoc, Nat.mul_comm q 10]
    omega
  · by_cases hk : k < a.length ∨ k < b.length
    · exact .inl (by omega)
    · right
      have hcr : cr = 1 := by omega
      have e0 : a.getD k 0 = 0 := by rw [List.getD_eq_getElem?_getD, List.getElem?_eq_none (by omega)]; rfl
      have e1 : b.getD k 0 = 0 := by rw [List.getD_eq_getElem?_getD, List.getElem?_eq_none (by omega)]; rfl
      have hkm : k = max a.length b.length := by
        have := h.bound
        omega
      refine ⟨by omega, by rw [e0, e1, hcr], ?_⟩
      have he := h.eq
      rw [List.take_of_length_le (by omega), List.take_of_length_le (by omega), hcr] at he
      simp only [Nat.add_sub_cancel]
      omega
theorem PInv.done {a b : List Nat} {k : Nat} {l : List Nat} (h : PInv a b k 0 l) (ha : Norm10 a) (hb : Norm10 b) (h1 : a.length ≤ k) (h2 : b.length ≤ k) : Norm10 l ∧ val10 l = val10 a + val10 b := by
  have he := h.eq
  rw [List.take_of_length_le h1, List.take_of_length_le h2] at he
  have hv : val10 l = val10 a + val10 b := by omega
  refine ⟨?_, hv⟩
  by_cases hl : l = []
  · subst hl; exact norm10_nil
  · refine norm10_of_ge h.small hl ?_
    have hk : 0 < k := by rw [← h.len]; exact List.length_pos_iff.2 hl
    rw [hv, h.len]
    rcases h.bound with hb' | ⟨_, _, hb'⟩
    · rcases hb' with e | e
      · have ek : a.length = k := by omega
        have := ha.val_ge (by rintro rfl; simp at ek; omega)
        rw [ek] at this
        omega
      · have ek : b.length = k := by omega
        have := hb.val_ge (by rintro rfl; simp at ek; omega)
        rw [ek] at this
        omega
    · exact hb'
/-- What holds of a difference's first digits. -/
structure MInv (a b : List Nat) (k br : Nat) (l : List Nat) : Prop where
  len : l.length = k
  small : Small10 l
  br1 : br ≤ 1
  eq : val10 l + val10 (b.take k) = val10 (a.take k) + br * 10 ^ k
theorem MInv.start (a b : List Nat) : MInv a b 0 0 [] := ⟨rfl, small10_nil, by omega, by simp [val10]⟩
theorem MInv.step {a b : List Nat} {k br : Nat} {l : List Nat} (h : MInv a b k br l) (d br' : Nat) (hd : d < 10) (hb' : br' ≤ 1) (he' : (d : Int) = a.getD k 0 - br - b.getD k 0 + 10 * br') : MInv a b (k + 1) br' (l ++ [d]) := by
  have ta := take_gd a k
  have tb := take_gd b k
  refine ⟨by rw [List.length_append, h.len]; rfl, h.small.append (Small10.mk hd small10_nil), hb', ?_⟩
  rw [val10_snoc, h.len, ta, tb, Nat.pow_succ]
  have he := h.eq
  generalize a.getD k 0 = x at *
  generalize b.getD k 0 = y at *
  generalize 10 ^ k = P at *
  have e1 : d + br + y = x + 10 * br' := by omega
  have e2 : (d + br + y) * P = (x + 10 * br') * P := by rw [e1]
  rw [Nat.add_mul, Nat.add_mul, Nat.add_mul] at e2
  have e3 : br' * (P * 10) = 10 * br' * P := by rw [Nat.mul_comm P 10, ← Nat.mul_assoc, Nat.mul_comm br' 10]
  omega
theorem MInv.done {a b : List Nat} {br : Nat} {l : List Nat} (h : MInv a b a.length br l) (hab : b.length ≤ a.length) (hle : val10 b ≤ val10 a) : val10 l = val10 a - val10 b := by
  have he := h.eq
  rw [List.take_of_length_le (Nat.le_refl _), List.take_of_length_le hab] at he
  have h1 := val10_lt h.small
  rw [h.len] at h1
  have h2 := h.br1
  rcases Nat.eq_zero_or_pos br with e | e
  · subst e; omega
  · have : br = 1 := by omega
    subst this
    omega
end Go.Proofs.YtngohpgkceedeaaGreatDoor

namespace Go.Proofs.YtngohpgkceedeaaGreatDoor
open Go Go.RowKit Go.Lib

end Go.Proofs.YtngohpgkceedeaaGreatDoor
