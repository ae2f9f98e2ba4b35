/-
  What the eight operations of the laws' calls hand back, as a relation; that results narrow with their operands, their digits, and the bounds that Rounds' differences need. Plain: no program in sight.
-/
import Derived.Test.YtngohpgkceedeaaGreatDoorQPlain6
namespace Go.Proofs.YtngohpgkceedeaaGreatDoor
open Go Go.Lib

/-- What the k-th operation hands back (T = 10^places): `none` is the error. -/
def OpRes (k : Nat) (a b : Iv) (T : Int) (o : Option Iv) : Prop :=
  match k with
  | 0 => o = some (addI a b)
  | 1 => o = some (subI a b)
  | 2 => o = some (mulI a b)
  | 3 => (b.Free ∧ o = some (divI a b)) ∨ (¬ b.Free ∧ o = none)
  | 4 => o = some (hullI a b)
  | 5 => ((meetI a b).Ok ∧ o = some (meetI a b)) ∨ (¬ (meetI a b).Ok ∧ o = none)
  | 6 => (0 ≤ a.lo ∧ ∃ s, SqrtI a T s ∧ o = some s) ∨ (a.lo < 0 ∧ o = none)
  | _ => o = some (roundI a T)

theorem OpRes.ok {k : Nat} {a b s : Iv} {T : Int} (hT : 0 < T) (ha : a.Ok) (hb : b.Ok) (h : OpRes k a b T (some s)) : s.Ok := by
  unfold OpRes at h
  split at h
  · cases h; exact addI_ok ha hb
  · cases h; exact subI_ok ha hb
  · cases h; exact mulI_ok ha hb
  · rcases h with ⟨h0, h⟩ | ⟨_, h⟩
    · cases h; exact divI_ok h0 ha hb
    · cases h
  · cases h; exact hullI_ok ha
  · rcases h with ⟨h0, h⟩ | ⟨_, h⟩
    · cases h; exact h0
    · cases h
  · rcases h with ⟨_, t, ht, h⟩ | ⟨_, h⟩
    · cases h; exact SqrtI.ok hT ha ht
    · cases h
  · cases h
    have h1 := sub_roundI (a := a) hT
    have h2 : a.lo ≤ a.hi := ha
    exact Rat.le_trans (Rat.le_trans h1.1 h2) h1.2

/-- Narrower operands: a narrower result; and where only the wider ones have one, it is the meet. -/
theorem OpRes.sub {k : Nat} {a b c d t : Iv} {T : Int} {o : Option Iv} (hT : 0 < T) (ha : a.Ok) (hb : b.Ok) (h1 : a.Sub c) (h2 : b.Sub d)
    (h : OpRes k a b T o) (h' : OpRes k c d T (some t)) : (∃ s, o = some s ∧ s.Sub t) ∨ (k = 5 ∧ o = none) := by
  unfold OpRes at h h'
  split at h <;> simp only at h'
  · cases h'; exact .inl ⟨_, h, addI_sub h1 h2⟩
  · cases h'; exact .inl ⟨_, h, subI_sub h1 h2⟩
  · cases h'; exact .inl ⟨_, h, mulI_sub ha hb h1 h2⟩
  · rcases h' with ⟨h0, h'⟩ | ⟨_, h'⟩
    · cases h'
      rcases h with ⟨_, h⟩ | ⟨hn, _⟩
      · exact .inl ⟨_, h, divI_sub h0 ha hb h1 h2⟩
      · exact absurd (h0.sub h2) hn
    · cases h'
  · cases h'; exact .inl ⟨_, h, hullI_sub ha hb h1 h2⟩
  · rcases h' with ⟨h0, h'⟩ | ⟨_, h'⟩
    · cases h'
      rcases h with ⟨hm, h⟩ | ⟨_, h⟩
      · exact .inl ⟨_, h, meetI_sub hm h1 h2⟩
      · exact .inr ⟨rfl, h⟩
    · cases h'
  · rcases h' with ⟨h0, u, hu, h'⟩ | ⟨_, h'⟩
    · cases h'
      rcases h with ⟨_, s, hs, h⟩ | ⟨hn, _⟩
      · exact .inl ⟨_, h, SqrtI.sub hT h1 hs hu⟩
      · exact absurd (Rat.le_trans h0 h1.1) (Rat.not_le.2 hn)
    · cases h'
  · cases h'; exact .inl ⟨_, h, roundI_sub hT h1⟩

/-- How long the results are. -/
theorem OpRes.dig {k j p : Nat} {a b s : Iv} (hj : 0 < j) (hb : b.Ok) (da : IDig j a) (db : IDig j b) (h : OpRes k a b (TT p) (some s)) : IDig (j + j + p + p + 1) s := by
  unfold OpRes at h
  split at h
  · cases h; exact (addI_dig da db).mono (by omega)
  · cases h; exact (subI_dig da db).mono (by omega)
  · cases h; exact (mulI_dig da db).mono (by omega)
  · rcases h with ⟨h0, h⟩ | ⟨_, h⟩
    · cases h; exact (divI_dig da db h0 hb).mono (by omega)
    · cases h
  · cases h; exact (hullI_dig da db).mono (by omega)
  · rcases h with ⟨h0, h⟩ | ⟨_, h⟩
    · cases h; exact (meetI_dig da db).mono (by omega)
    · cases h
  · rcases h with ⟨_, t, ht, h⟩ | ⟨_, h⟩
    · cases h; exact (SqrtI.dig da hj ht).mono (by omega)
    · cases h
  · cases h; exact (roundI_dig da).mono (by omega)

/-- The unit of the last place, one place further. -/
theorem unit_next (p : Nat) : Rat.divInt 1 (TT p) / 10 = Rat.divInt 1 (TT (p + 1)) := by
  have h1 : TT (p + 1) = TT p * 10 := by unfold TT; rw [Nat.pow_succ]; push_cast; rfl
  have h2 := TT_pos p
  have e1 : Rat.divInt 1 (TT p) * (TT p : Rat) = 1 := by simpa using divInt_mul (n := 1) h2
  have e2 : Rat.divInt 1 (TT (p + 1)) * (TT (p + 1) : Rat) = 1 := by simpa using divInt_mul (n := 1) (TT_pos (p + 1))
  rw [h1] at e2 ⊢
  have h3 : ((TT p * 10 : Int) : Rat) = (TT p : Rat) * 10 := by push_cast; rfl
  rw [h3] at e2
  have h4 : (TT p : Rat) ≠ 0 := fun e => by rw [e] at e1; simp at e1
  grind
theorem unit_dig (p : Nat) : QDig (p + 1) (Rat.divInt 1 (TT p)) :=
  QDig.ofInt (TT_pos p) ((show Dig 1 1 by unfold Dig; decide).mono (by omega)) (TT_dig p)

theorem dn_den_dig (p : Nat) (n : Int) : Dig (p + 1) ((Rat.divInt n (TT p)).den : Int) := by
  rw [(reduced_parts (n := n) (TT_pos p)).2]; exact (TT_dig p).ediv _
theorem num_le (n : Int) (p : Nat) : (Rat.divInt n (TT p)).num.natAbs ≤ n.natAbs := by
  rw [(reduced_parts (n := n) (TT_pos p)).1]; exact Int.natAbs_ediv_le_natAbs _ _
/-- The cross products of a number and its rounded one stay short: the whole part is near. -/
theorem near_cross {j p : Nat} {r : Rat} {m : Int} (h : QDig j r) (hm : (m * (r.den : Int)).natAbs ≤ (r.num * TT p).natAbs + r.den + r.den) :
    Dig (j + p + 1) ((Rat.divInt m (TT p)).num * (r.den : Int)) := by
  have h1 := TT_mul_dig (p := p) h.1
  have h2 := h.2
  have h3 := num_le m p
  unfold Dig at *
  rw [Int.natAbs_mul] at hm ⊢
  have h4 : (Rat.divInt m (TT p)).num.natAbs * (r.den : Int).natAbs ≤ m.natAbs * (r.den : Int).natAbs := Nat.mul_le_mul_right _ h3
  have h5 : 10 ^ j ≤ 10 ^ (j + p) := Nat.pow_le_pow_right (by decide) (by omega)
  have h6 : 10 ^ (j + p + 1) = 10 ^ (j + p) * 10 := Nat.pow_succ ..
  rw [Int.natAbs_natCast] at h2 h4 hm ⊢
  omega
theorem down_near (r : Rat) (T : Int) : (downI r T * (r.den : Int)).natAbs ≤ (r.num * T).natAbs + r.den := by
  unfold downI
  have h0 := den_pos r
  have h1 := Int.ediv_mul_add_emod (r.num * T) (r.den : Int)
  have h2 := Int.emod_nonneg (r.num * T) (b := (r.den : Int)) (by omega)
  have h3 := Int.emod_lt_of_pos (r.num * T) h0
  omega
theorem up_near (r : Rat) (T : Int) : (upI r T * (r.den : Int)).natAbs ≤ (r.num * T).natAbs + r.den + r.den := by
  have h1 := down_near r T
  unfold upI
  split
  · rw [Int.add_zero]; omega
  · rw [Int.add_mul]; omega
theorem dn_cross {j p : Nat} {r : Rat} (h : QDig j r) : Dig (j + p + 1) ((dn r (TT p)).num * (r.den : Int)) := near_cross h (by have := down_near r (TT p); omega)
theorem uq_cross {j p : Nat} {r : Rat} (h : QDig j r) : Dig (j + p + 1) ((uq r (TT p)).num * (r.den : Int)) := near_cross h (up_near r (TT p))
theorem grid_cross {j p : Nat} {r : Rat} {m : Int} (h : QDig j r) : Dig (j + p + 1) (r.num * ((Rat.divInt m (TT p)).den : Int)) := (h.1.mul (dn_den_dig p m)).mono (by omega)
theorem grid_dens {j p : Nat} {r : Rat} {m : Int} (h : QDig j r) : Dig (j + p + 1) ((r.den : Int) * ((Rat.divInt m (TT p)).den : Int)) := (h.2.mul (dn_den_dig p m)).mono (by omega)
end Go.Proofs.YtngohpgkceedeaaGreatDoor
