/-
  Each function and its reference hand back the same, whatever the strings.
-/
import Derived.Test.YtnfkibgoockmpaaGreatDoorRefJ
namespace Go.Proofs.YtnfkibgoockmpaaGreatDoor
open Go Go.RowKit Go.Lib Go.Shelf

def SE (s : ByteArray) (c : Int) (w : World) (e : Ending) (w' : World) : Prop := e = .returned (.tuple #[.string s, .int .i64 c]) ∧ Below w.heap.size w w'
def SSE (s t : ByteArray) (c : Int) (w : World) (e : Ending) (w' : World) : Prop := e = .returned (.tuple #[.string s, .string t, .int .i64 c]) ∧ Below w.heap.size w w'
/-- Both functions hand back P of a world. -/
def Same (f g : FuncId) (args : Array Value) (R : World → Ending → World → Prop) : Prop := (∀ w, Env w → Calls Tryz.prog f args w (R w)) ∧ (∀ w, Env w → Calls Tryz.prog g args w (R w))
theorem both_cases (a b : ByteArray) : (∃ x y, Is a x ∧ Is b y ∧ Fits x ∧ Fits y) ∨ (validB a.data.toList && validB b.data.toList) = false := by
  by_cases h1 : validB a.data.toList = true
  · by_cases h2 : validB b.data.toList = true
    · obtain ⟨x, fx, ex⟩ := validB_elim _ h1
      obtain ⟨y, fy, ey⟩ := validB_elim _ h2
      exact .inl ⟨x, y, ex, ey, fx, fy⟩
    · exact .inr (by simp [h2])
  · exact .inr (by simp [h1])
theorem same_add (a b : ByteArray) (ha : Str a) (hb : Str b) : ∃ s c, Same 14 25 #[.string a, .string b] (SE s c) := by
  rcases both_cases a b with ⟨x, y, ix, iy, fx, fy⟩ | h
  · exact ⟨_, _, fun w he => add_ok a b x y w he.tab ix iy fx fy ha hb, fun w _ => radd_any ix iy (Lib.hid rfl) fx fy w⟩
  · exact ⟨⟨#[]⟩, 30, fun w _ => add_bad a b w h ha hb, fun w _ => radd_bad h ha hb w⟩
theorem same_sub (a b : ByteArray) (ha : Str a) (hb : Str b) : ∃ s c, Same 16 26 #[.string a, .string b] (SE s c) := by
  rcases both_cases a b with ⟨x, y, ix, iy, fx, fy⟩ | h
  · exact ⟨_, _, fun w he => sub_ok a b x y w he.tab ix iy fx fy ha hb, fun w _ => rsub_any ix iy (Lib.hid rfl) fx fy w⟩
  · exact ⟨⟨#[]⟩, 30, fun w _ => sub_bad a b w h ha hb, fun w _ => rsub_bad h ha hb w⟩
theorem same_mul (a b : ByteArray) (ha : Str a) (hb : Str b) : ∃ s c, Same 15 27 #[.string a, .string b] (SE s c) := by
  rcases both_cases a b with ⟨x, y, ix, iy, fx, fy⟩ | h
  · exact ⟨_, _, fun w he => mul_ok a b x y w he.tab ix iy fx fy ha hb, fun w _ => rmul_any ix iy (Lib.hid rfl) fx fy w⟩
  · exact ⟨⟨#[]⟩, 30, fun w _ => mul_bad a b w h ha hb, fun w _ => rmul_bad h ha hb w⟩
theorem same_gcd (a b : ByteArray) (ha : Str a) (hb : Str b) : ∃ s c, Same 20 29 #[.string a, .string b] (SE s c) := by
  rcases both_cases a b with ⟨x, y, ix, iy, fx, fy⟩ | h
  · exact ⟨_, _, fun w he => gcdS ix iy (Lib.hid rfl) fx fy w he, fun w _ => rgcdS ix iy (Lib.hid rfl) fx fy w⟩
  · exact ⟨⟨#[]⟩, 30, fun w _ => gcd_bad a b w h ha hb, fun w _ => rgcd_bad h ha hb w⟩
theorem same_div (a b : ByteArray) (ha : Str a) (hb : Str b) : ∃ s t c, Same 17 28 #[.string a, .string b] (SSE s t c) := by
  rcases both_cases a b with ⟨x, y, ix, iy, fx, fy⟩ | h
  · by_cases hy : y = 0
    · subst hy
      have e : b = ⟨#[48]⟩ := by rw [iy.eq, S_zero]
      subst e
      exact ⟨⟨#[]⟩, ⟨#[]⟩, 30, fun w _ => divZ ix iy fx w, fun w _ => rdivZ ix fx w⟩
    · exact ⟨_, _, _, fun w he => divS ix iy (Lib.hid rfl) (Lib.hid rfl) fx fy (Lib.hid hy) w he, fun w _ => rdivS ix iy (Lib.hid rfl) (Lib.hid rfl) fx fy (Lib.hid hy) w⟩
  · exact ⟨⟨#[]⟩, ⟨#[]⟩, 30, fun w _ => div_bad a b w h ha hb, fun w _ => rdiv_bad h ha hb w⟩
theorem same_cmp (a b : ByteArray) (ha : Str a) (hb : Str b) : ∃ c, Same 18 34 #[.string a, .string b] (CmpOk c) := by
  rcases both_cases a b with ⟨x, y, ix, iy, fx, fy⟩ | h
  · exact ⟨_, fun w _ => cmpS ix iy (Lib.hid rfl) fx fy w, fun w _ => rcmpS ix iy (Lib.hid rfl) fx fy w⟩
  · exact ⟨0, fun w _ => compare_bad a b w h ha hb, fun w _ => rcompare_bad h ha hb w⟩
theorem same_root (a : ByteArray) (ha : Str a) : ∃ s c, Same 21 30 #[.string a] (SE s c) := by
  by_cases hv : validB a.data.toList = true
  · obtain ⟨x, fx, ix⟩ := validB_elim _ hv
    by_cases hx : x < 0
    · exact ⟨⟨#[]⟩, 30, fun w _ => rootN ix fx (Lib.hid hx) w, fun w _ => rrootN ix fx (Lib.hid hx) w⟩
    · obtain ⟨r, hr⟩ := exists_root x.natAbs
      have h : Hid (0 ≤ x ∧ 0 ≤ (r : Int) ∧ IsRoot x.natAbs (r : Int).natAbs) := Lib.hid ⟨by omega, by omega, by rw [Int.natAbs_natCast]; exact hr⟩
      exact ⟨_, _, fun w he => rootS ix h fx w he, fun w _ => rrootS ix h fx w⟩
  · have h : validB a.data.toList = false := by simpa using hv
    exact ⟨⟨#[]⟩, 30, fun w _ => root_bad a w h ha, fun w _ => rroot_bad (Lib.hid h) ha w⟩
theorem same_toInt (a : ByteArray) (ha : a.size ≤ 140737488355328) : ∃ z c, Same 31 32 #[.string a] (IntOk z c) := by
  have hs : Str a := by unfold Str; omega
  by_cases h : ∃ z, IsInt z ∧ Is a z
  · obtain ⟨z, hi, hz⟩ := h
    exact ⟨z, 0, fun w _ => toInt_ok a z w hz hi ha, fun w _ => rtoInt_ok a z w hz hi⟩
  · exact ⟨0, 30, fun w he => toInt_bad a w he h ha, fun w _ => rtoInt_bad a w h hs⟩
theorem same_valid (a : ByteArray) (ha : Str a) : ∃ c, Same 19 33 #[.string a] (BoolOk c) :=
  ⟨_, fun w _ => valid_any a w ha, fun w _ => (rvalid_any a w ha).mono fun _ _ ⟨he, hw⟩ => ⟨he, by rw [hw]; exact Below.refl _ _⟩⟩
end Go.Proofs.YtnfkibgoockmpaaGreatDoor
