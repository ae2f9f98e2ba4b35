/-
  What the laws of drift share: contracts in the form in which the walks take them.
-/
import Derived.Test.YtngohpgkceedeaaGreatDoorCDSanePlain
import Derived.Test.YtngohpgkceedeaaGreatDoorCSane12
set_option linter.unusedSimpArgs false
set_option linter.unusedVariables false
namespace Go.Proofs.YtngohpgkceedeaaGreatDoor
open Go Go.RowKit Go.Lib Go.Shelf

theorem dcons_say {r : Rat} {l : List Pt} {n : Nat} (hn : (cons ⟨r, l⟩).length = n) (ho : Hist.Ok ⟨r, l⟩) (p : Option Addr) (m c : Nat) (hm : l.length = m) (w : World) (hp : PAt w p l) (he : Env w) :
    Calls Tryz.prog 40 #[.agg #[.string (S r.num), .string (S (r.den : Int)), .slice p m c]] w (fun e w' => ∃ v, e = .returned v ∧ SaySl n v w' ∧ Below w.heap.size w w') := by
  subst hn
  exact (dcons ho p m c hm w hp he).mono fun e w' ⟨v, hown, h1, h2⟩ => ⟨v, h1, by
    rcases hown.2 with ⟨h, h0⟩ | ⟨g, cap, cur, h, _⟩
    · exact ⟨none, 0, by rw [h0]; exact h⟩
    · exact ⟨_, cap, h⟩, h2⟩
theorem dadd_n {r : Rat} {l l' : List Pt} {a : Pt} {n : Nat} (hl : ins l a = l') (hn : l'.length = n) (ho : Hist.Ok ⟨r, l⟩) (hoi : Hist.Ok ⟨r, l'⟩) (p : Option Addr) (m c : Nat) (hm : l.length = m) (w : World) (hp : PAt w p l) (he : Env w) :
    Calls Tryz.prog 38 #[.agg #[.string (S r.num), .string (S (r.den : Int)), .slice p m c], .agg #[.int .i64 (a.t : Int), .string (S a.iv.lo.num), .string (S (a.iv.lo.den : Int)), .string (S a.iv.hi.num), .string (S (a.iv.hi.den : Int))]] w (fun e w' => ∃ p c, PAt w' p l' ∧ e = .returned (.tuple #[.agg #[.string (S r.num), .string (S (r.den : Int)), .slice p n c], .int .i64 0]) ∧ Below w.heap.size w w') := by
  subst hn hl
  exact (dadd ho hoi p m c hm w hp he).mono fun e w' ⟨p', c', hown, h1, h2⟩ => ⟨p', c', own_patR hown rfl, h1, h2⟩
theorem pat_set2 {W : World} {p : Option Addr} {l : List Pt} {b : Nat} {vs : Array Value} {T : TypeId} {u0 u1 : Value} (h : PAt W p l) (r : Row W b (.cells vs T)) (hne : T ≠ 53) : PAt ((W.setCell ⟨b, 0, none⟩ u0).setCell ⟨b, 1, none⟩ u1) p l :=
  pat_set (pat_set h r hne _ _) (r.set_same rfl) hne _ _
theorem divInt_small {n d m : Int} (hd : 1 ≤ d) (h0 : 0 ≤ n) (h : n ≤ m) : Rat.divInt n d ≤ (m : Rat) := by
  rw [Rat.divInt_eq_div]
  have h1 : (0 : Rat) < (d : Rat) := by exact_mod_cast (show (0 : Int) < d by omega)
  have h2 : (1 : Rat) ≤ (d : Rat) := by exact_mod_cast hd
  have h3 : (n : Rat) ≤ (m : Rat) := by exact_mod_cast h
  have h4 : (0 : Rat) ≤ (n : Rat) := by exact_mod_cast h0
  have h5 : (n : Rat) / (d : Rat) * (d : Rat) = (n : Rat) := by rw [Rat.div_mul_cancel (by grind)]
  have h6 : 0 ≤ (n : Rat) / (d : Rat) := by rw [Rat.div_def]; exact Rat.mul_nonneg h4 (Rat.le_of_lt (Rat.inv_pos.2 h1))
  have h7 : (n : Rat) / (d : Rat) * 1 ≤ (n : Rat) / (d : Rat) * (d : Rat) := Rat.mul_le_mul_of_nonneg_left h2 h6
  grind
end Go.Proofs.YtngohpgkceedeaaGreatDoor
