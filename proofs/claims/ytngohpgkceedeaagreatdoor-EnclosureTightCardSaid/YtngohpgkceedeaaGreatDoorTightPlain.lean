/-
  Which ends the results of sums, differences, products and quotients have. Plain: no program in sight.
-/
import Derived.Test.YtngohpgkceedeaaGreatDoorQPlain7
namespace Go.Proofs.YtngohpgkceedeaaGreatDoor
open Go Go.Lib

def endR (a : Iv) (k : Nat) : Rat := if k / 2 = 0 then a.lo else a.hi
def endS (b : Iv) (k : Nat) : Rat := if k % 2 = 0 then b.lo else b.hi
def opQ (i : Nat) (r s : Rat) : Rat := match i with | 0 => r + s | 1 => r - s | 2 => r * s | _ => r / s
theorem endR_has {a : Iv} (ha : a.Ok) (k : Nat) : a.Has (endR a k) := by
  have h : a.lo ≤ a.hi := ha
  unfold endR
  split
  · exact ⟨Rat.le_refl, h⟩
  · exact ⟨h, Rat.le_refl⟩
theorem endS_has {b : Iv} (hb : b.Ok) (k : Nat) : b.Has (endS b k) := by
  have h : b.lo ≤ b.hi := hb
  unfold endS
  split
  · exact ⟨Rat.le_refl, h⟩
  · exact ⟨h, Rat.le_refl⟩
theorem endR_dig {j : Nat} {a : Iv} (da : IDig j a) (k : Nat) : QDig j (endR a k) := by
  unfold endR; split
  · exact da.1
  · exact da.2
theorem endS_dig {j : Nat} {b : Iv} (db : IDig j b) (k : Nat) : QDig j (endS b k) := by
  unfold endS; split
  · exact db.1
  · exact db.2
theorem tight_none {i : Nat} {a b : Iv} {T : Int} (hi : i < 4) (h : OpRes i a b T none) : i = 3 ∧ ¬ b.Free := by
  obtain rfl | rfl | rfl | rfl : i = 0 ∨ i = 1 ∨ i = 2 ∨ i = 3 := by omega
  · cases h
  · cases h
  · cases h
  · rcases h with ⟨_, h⟩ | ⟨h, _⟩
    · cases h
    · exact ⟨rfl, h⟩
theorem tight_free {a b o : Iv} {T : Int} (h : OpRes 3 a b T (some o)) : b.Free := by
  rcases h with ⟨h, _⟩ | ⟨_, h⟩
  · exact h
  · cases h
theorem tight_has {i : Nat} {a b o : Iv} {T : Int} (ha : a.Ok) (hb : b.Ok) (hi : i < 4) (h : OpRes i a b T (some o)) (k : Nat) : o.Has (opQ i (endR a k) (endS b k)) := by
  have h1 := endR_has ha k
  have h2 := endS_has hb k
  obtain rfl | rfl | rfl | rfl : i = 0 ∨ i = 1 ∨ i = 2 ∨ i = 3 := by omega
  · cases h; exact addI_has h1 h2
  · cases h; exact subI_has h1 h2
  · cases h; exact mulI_has h1 h2
  · rcases h with ⟨h0, h⟩ | ⟨_, h⟩
    · cases h; exact divI_has h0 h1 h2
    · cases h
theorem tight_lo {i : Nat} {a b o : Iv} {T : Int} (hi : i < 4) (h : OpRes i a b T (some o)) : ∃ k, k < 4 ∧ opQ i (endR a k) (endS b k) = o.lo := by
  obtain rfl | rfl | rfl | rfl : i = 0 ∨ i = 1 ∨ i = 2 ∨ i = 3 := by omega
  · cases h; exact ⟨0, by omega, rfl⟩
  · cases h; exact ⟨1, by omega, rfl⟩
  · cases h
    rcases min4_or (a.lo * b.lo) (a.lo * b.hi) (a.hi * b.lo) (a.hi * b.hi) with e | e | e | e
    · exact ⟨0, by omega, e.symm⟩
    · exact ⟨1, by omega, e.symm⟩
    · exact ⟨2, by omega, e.symm⟩
    · exact ⟨3, by omega, e.symm⟩
  · rcases h with ⟨_, h⟩ | ⟨_, h⟩
    · cases h
      rcases min4_or (a.lo / b.lo) (a.lo / b.hi) (a.hi / b.lo) (a.hi / b.hi) with e | e | e | e
      · exact ⟨0, by omega, e.symm⟩
      · exact ⟨1, by omega, e.symm⟩
      · exact ⟨2, by omega, e.symm⟩
      · exact ⟨3, by omega, e.symm⟩
    · cases h
theorem tight_hi {i : Nat} {a b o : Iv} {T : Int} (hi : i < 4) (h : OpRes i a b T (some o)) : ∃ k, k < 4 ∧ opQ i (endR a k) (endS b k) = o.hi := by
  obtain rfl | rfl | rfl | rfl : i = 0 ∨ i = 1 ∨ i = 2 ∨ i = 3 := by omega
  · cases h; exact ⟨3, by omega, rfl⟩
  · cases h; exact ⟨2, by omega, rfl⟩
  · cases h
    rcases max4_or (a.lo * b.lo) (a.lo * b.hi) (a.hi * b.lo) (a.hi * b.hi) with e | e | e | e
    · exact ⟨0, by omega, e.symm⟩
    · exact ⟨1, by omega, e.symm⟩
    · exact ⟨2, by omega, e.symm⟩
    · exact ⟨3, by omega, e.symm⟩
  · rcases h with ⟨_, h⟩ | ⟨_, h⟩
    · cases h
      rcases max4_or (a.lo / b.lo) (a.lo / b.hi) (a.hi / b.lo) (a.hi / b.hi) with e | e | e | e
      · exact ⟨0, by omega, e.symm⟩
      · exact ⟨1, by omega, e.symm⟩
      · exact ⟨2, by omega, e.symm⟩
      · exact ⟨3, by omega, e.symm⟩
    · cases h
/-- What one of the two tests knows when k of the four rounds are over: it has been met, or will be. -/
def Due (i : Nat) (a b : Iv) (q : Rat) (k : Nat) (l : Bool) : Prop := l = true ∨ ∃ j, k ≤ j ∧ j < 4 ∧ opQ i (endR a j) (endS b j) = q
theorem Due.start {i : Nat} {a b : Iv} {q : Rat} (h : ∃ k, k < 4 ∧ opQ i (endR a k) (endS b k) = q) : Due i a b q 0 false := .inr (h.elim fun k hk => ⟨k, by omega, hk⟩)
theorem Due.next {i k : Nat} {a b : Iv} {q : Rat} {l m : Bool} (h : Due i a b q k l) (hm : m = (l || decide (opQ i (endR a k) (endS b k) = q))) : Due i a b q (k + 1) m := by
  subst hm
  rcases h with h | ⟨j, h1, h2, h3⟩
  · subst h; exact .inl rfl
  · rcases Nat.eq_or_lt_of_le h1 with e | e
    · subst e; exact .inl (by rw [decide_eq_true h3]; simp)
    · exact .inr ⟨j, e, h2, h3⟩
theorem Due.all {i k : Nat} {a b : Iv} {q : Rat} {l : Bool} (h : Due i a b q k l) (hk : 4 ≤ k) : l = true := by
  rcases h with h | ⟨j, h1, h2, _⟩
  · exact h
  · omega
end Go.Proofs.YtngohpgkceedeaaGreatDoor
