/-
  Histories that integers determine; small fractions and intervals of the drift laws.
-/
import Derived.Test.YtngohpgkceedeaaGreatDoorCDUntil2
import Derived.Test.YtngohpgkceedeaaGreatDoorCR12Add
set_option linter.unusedSimpArgs false
set_option linter.unusedVariables false
namespace Go.Proofs.YtngohpgkceedeaaGreatDoor
open Go Go.RowKit Go.Lib Go.Shelf
attribute [local go_sem] normalQ

theorem Row.set3ab {W : World} {b : Nat} {v0 v1 v2 u0 u1 : Value} {t : TypeId} (h : Row W b (.cells #[v0, v1, v2] t)) : Row ((W.setCell ⟨b, 0, none⟩ u0).setCell ⟨b, 1, none⟩ u1) b (.cells #[u0, u1, v2] t) := (h.set_same rfl).set_same rfl
theorem Row.set3c {W : World} {b : Nat} {v0 v1 v2 u2 : Value} {t : TypeId} (h : Row W b (.cells #[v0, v1, v2] t)) : Row (W.setCell ⟨b, 2, none⟩ u2) b (.cells #[v0, v1, u2] t) := h.set_same rfl
theorem Row.set5bc {W : World} {b : Nat} {v0 v1 v2 v3 v4 u1 u2 : Value} {t : TypeId} (h : Row W b (.cells #[v0, v1, v2, v3, v4] t)) : Row ((W.setCell ⟨b, 1, none⟩ u1).setCell ⟨b, 2, none⟩ u2) b (.cells #[v0, u1, u2, v3, v4] t) := (h.set_same rfl).set_same rfl
theorem Row.set5de {W : World} {b : Nat} {v0 v1 v2 v3 v4 u3 u4 : Value} {t : TypeId} (h : Row W b (.cells #[v0, v1, v2, v3, v4] t)) : Row ((W.setCell ⟨b, 3, none⟩ u3).setCell ⟨b, 4, none⟩ u4) b (.cells #[v0, v1, v2, u3, u4] t) := (h.set_same rfl).set_same rfl
theorem RWk {P : Prop} (h : P := by repeat (first | (with_reducible assumption) | (with_reducible exact row_new' (by first | omega | (simp; done) | (simp; omega))) | (with_reducible refine Row.drew ?_) | (with_reducible refine Row.drewN ?_ _) | (with_reducible refine Row.alloc ?_ _) | (with_reducible apply Row.set5) | (with_reducible apply Row.set4) | (with_reducible apply Row.set3) | (with_reducible apply Row.set3ab) | (with_reducible apply Row.set3c) | (with_reducible apply Row.set5bc) | (with_reducible apply Row.set5de) | (with_reducible apply Row.set4a) | (with_reducible apply Row.set4b) | (with_reducible apply Row.set2) | (with_reducible apply Row.set1) | (with_reducible apply Row.set2a) | (with_reducible apply Row.set2b) | (with_reducible refine Row.set_other ?_ _ (by first | omega | (simp; done) | (simp; omega))))) : P := h
/-- The index that an arbitrary integer stands for. -/
def pk (c n : Int) : Int := if c < 0 then (-(c + 1)) % n else c % n
theorem pk_nonneg (c : Int) {n : Int} (h : 0 < n) : 0 ≤ pk c n := by unfold pk; split <;> exact Int.emod_nonneg _ (by omega)
theorem pk_lt (c : Int) {n : Int} (h : 0 < n) : pk c n < n := by unfold pk; split <;> exact Int.emod_lt_of_pos _ h
set_option maxRecDepth 100000 in
set_option maxHeartbeats 4000000 in
theorem pickL12 (c n : Int) (hc : IsInt c) (hn : 0 < n) (w : World) : Calls Tryz.prog 30 #[.int .i64 c, .int .i64 n] w fun e w' => e = .returned (.int .i64 (pk c n)) ∧ Below w.heap.size w w' := by
  obtain ⟨c0, c1⟩ := hc
  have nz : ¬ n = 0 := by omega
  by_cases h : c < 0
  · have e : -((c + 1).tmod n) = pk c n := by unfold pk; rw [if_pos h, ← Int.neg_tmod, Int.tmod_eq_emod_of_nonneg (by omega)]
    have E := Lib.hid e
    clear e
    go_enter Tryz.func30, Tryz.ntmps30
    go_wp2
    go_ret
    refine ⟨?_, Below.refl _ _⟩
    rw [← E.out]
    rfl
  · have e : c.tmod n = pk c n := by unfold pk; rw [if_neg h, Int.tmod_eq_emod_of_nonneg (by omega)]
    have E := Lib.hid e
    clear e
    go_enter Tryz.func30, Tryz.ntmps30
    go_wp2
    go_ret
    refine ⟨?_, Below.refl _ _⟩
    rw [← E.out]
    first | rfl | (rw [Int.tmod_eq_emod_of_nonneg (by omega)]; rfl)
set_option maxRecDepth 100000 in
set_option maxHeartbeats 16000000 in
theorem lof {n d : Int} (hn : IsInt n) (hd : IsInt d) (hd0 : 0 < d) (w : World) (he : Env w) : Calls Tryz.prog 45 #[.int .i64 n, .int .i64 d] w (fun e w' => e = .returned (Q (Rat.divInt n d)) ∧ Below w.heap.size w w') := by
  have hB : Below w.heap.size w w := Below.refl _ _
  have MO := fun W (H : Env W) => qof hn hd hd0 W H
  unfold QOk at MO
  unfold Q at *
  generalize Rat.divInt n d = q at *
  go_enter Tryz.func45, Tryz.ntmps45
  go_wp2_with fail
  have d0_o : w.heap.size ≤ w.heap.size := by have := hB.size; omega
  have sB := hB.size
  refine world_cut (fun X => Below w.heap.size w X ∧ Row X w.heap.size (.cells #[.string ⟨#[]⟩, .string ⟨#[]⟩] 26)) ⟨BW, RWk⟩ ?_
  clear hB sB
  rintro V1 ⟨hB, ro⟩
  have Fo : ∀ X, Row X w.heap.size (.cells #[.string ⟨#[]⟩, .string ⟨#[]⟩] 26) → (w.heap.size < X.heap.size ∧ X.cell? ⟨w.heap.size, 0, none⟩ = some (.string ⟨#[]⟩) ∧ X.cell? ⟨w.heap.size, 1, none⟩ = some (.string ⟨#[]⟩) ∧ X.frozen? ⟨w.heap.size, 0, none⟩ = false ∧ X.frozen? ⟨w.heap.size, 1, none⟩ = false) := fun X h => ⟨h.1, Row.cell_at h 0 rfl, Row.cell_at h 1 rfl, frozen_of_row _ _ 0 _ _ h.2, frozen_of_row _ _ 1 _ _ h.2⟩
  obtain ⟨so, co0, co1, fo0, fo1⟩ := Fo _ ro
  refine (MO _ (he.below hB)).mono ?_
  rintro e W2 ⟨rfl, h1⟩
  clear so co0 co1 fo0 fo1
  replace hB := hB.trans (h1.mono hB.size)
  replace ro := Row.below ro h1
  clear h1
  obtain ⟨so, co0, co1, fo0, fo1⟩ := Fo _ ro
  go_wp2_with fail
  have sB := hB.size
  refine post_cut (fun X => Below w.heap.size w X ∧ Row X w.heap.size (.cells #[.string (S q.num), .string (S (q.den : Int))] 26)) ⟨BW, RWk⟩ ?_
  clear ro
  clear so co0 co1 fo0 fo1
  clear hB sB
  rintro V3 ⟨hB, ro⟩
  clear Fo
  have Fo : ∀ X, Row X w.heap.size (.cells #[.string (S q.num), .string (S (q.den : Int))] 26) → (w.heap.size < X.heap.size ∧ X.cell? ⟨w.heap.size, 0, none⟩ = some (.string (S q.num)) ∧ X.cell? ⟨w.heap.size, 1, none⟩ = some (.string (S (q.den : Int))) ∧ X.frozen? ⟨w.heap.size, 0, none⟩ = false ∧ X.frozen? ⟨w.heap.size, 1, none⟩ = false) := fun X h => ⟨h.1, Row.cell_at h 0 rfl, Row.cell_at h 1 rfl, frozen_of_row _ _ 0 _ _ h.2, frozen_of_row _ _ 1 _ _ h.2⟩
  obtain ⟨so, co0, co1, fo0, fo1⟩ := Fo _ ro
  refine bodyPost_ret (v := .agg #[.string (S q.num), .string (S (q.den : Int))]) ?res rfl ⟨rfl, hB⟩
  case res => simp [results, Tryz.results45, go_sem, co0, co1]
set_option maxRecDepth 100000 in
set_option maxHeartbeats 16000000 in
theorem linterval {n m d : Int} (hn : IsInt n) (hm : IsInt m) (hd : IsInt d) (hd0 : 0 < d) (w : World) (he : Env w) : Calls Tryz.prog 44 #[.int .i64 n, .int .i64 m, .int .i64 d] w (fun e w' => e = .returned (I ⟨Rat.divInt n d, Rat.divInt m d⟩) ∧ Below w.heap.size w w') := by
  have hB : Below w.heap.size w w := Below.refl _ _
  have M1 := fun W (H : Env W) => lof hn hd hd0 W H
  have M2 := fun W (H : Env W) => lof hm hd hd0 W H
  unfold Q at *
  unfold I
  simp only
  generalize Rat.divInt n d = a at *
  generalize Rat.divInt m d = b at *
  go_enter Tryz.func44, Tryz.ntmps44
  go_wp2_with fail
  have d0_o : w.heap.size ≤ w.heap.size := by have := hB.size; omega
  have sB := hB.size
  refine world_cut (fun X => Below w.heap.size w X ∧ Row X w.heap.size (.cells #[.string ⟨#[]⟩, .string ⟨#[]⟩, .string ⟨#[]⟩, .string ⟨#[]⟩] 29)) ⟨BW, RWk⟩ ?_
  clear hB sB
  rintro V1 ⟨hB, ro⟩
  have Fo : ∀ X, Row X w.heap.size (.cells #[.string ⟨#[]⟩, .string ⟨#[]⟩, .string ⟨#[]⟩, .string ⟨#[]⟩] 29) → (w.heap.size < X.heap.size ∧ X.cell? ⟨w.heap.size, 0, none⟩ = some (.string ⟨#[]⟩) ∧ X.cell? ⟨w.heap.size, 1, none⟩ = some (.string ⟨#[]⟩) ∧ X.cell? ⟨w.heap.size, 2, none⟩ = some (.string ⟨#[]⟩) ∧ X.cell? ⟨w.heap.size, 3, none⟩ = some (.string ⟨#[]⟩) ∧ X.frozen? ⟨w.heap.size, 0, none⟩ = false ∧ X.frozen? ⟨w.heap.size, 1, none⟩ = false ∧ X.frozen? ⟨w.heap.size, 2, none⟩ = false ∧ X.frozen? ⟨w.heap.size, 3, none⟩ = false) := fun X h => ⟨h.1, Row.cell_at h 0 rfl, Row.cell_at h 1 rfl, Row.cell_at h 2 rfl, Row.cell_at h 3 rfl, frozen_of_row _ _ 0 _ _ h.2, frozen_of_row _ _ 1 _ _ h.2, frozen_of_row _ _ 2 _ _ h.2, frozen_of_row _ _ 3 _ _ h.2⟩
  obtain ⟨so, co0, co1, co2, co3, fo0, fo1, fo2, fo3⟩ := Fo _ ro
  refine (M1 _ (he.below hB)).mono ?_
  rintro e W2 ⟨rfl, h1⟩
  clear so co0 co1 co2 co3 fo0 fo1 fo2 fo3
  replace hB := hB.trans (h1.mono hB.size)
  replace ro := Row.below ro h1
  clear h1
  obtain ⟨so, co0, co1, co2, co3, fo0, fo1, fo2, fo3⟩ := Fo _ ro
  go_wp2_with fail
  refine (M2 _ (he.below hB)).mono ?_
  rintro e W3 ⟨rfl, h1⟩
  clear so co0 co1 co2 co3 fo0 fo1 fo2 fo3
  replace hB := hB.trans (h1.mono hB.size)
  replace ro := Row.below ro h1
  clear h1
  obtain ⟨so, co0, co1, co2, co3, fo0, fo1, fo2, fo3⟩ := Fo _ ro
  go_wp2_with fail
  have sB := hB.size
  refine post_cut (fun X => Below w.heap.size w X ∧ Row X w.heap.size (.cells #[.string (S a.num), .string (S (a.den : Int)), .string (S b.num), .string (S (b.den : Int))] 29)) ⟨BW, RWk⟩ ?_
  clear ro
  clear so co0 co1 co2 co3 fo0 fo1 fo2 fo3
  clear hB sB
  rintro V4 ⟨hB, ro⟩
  clear Fo
  have Fo : ∀ X, Row X w.heap.size (.cells #[.string (S a.num), .string (S (a.den : Int)), .string (S b.num), .string (S (b.den : Int))] 29) → (w.heap.size < X.heap.size ∧ X.cell? ⟨w.heap.size, 0, none⟩ = some (.string (S a.num)) ∧ X.cell? ⟨w.heap.size, 1, none⟩ = some (.string (S (a.den : Int))) ∧ X.cell? ⟨w.heap.size, 2, none⟩ = some (.string (S b.num)) ∧ X.cell? ⟨w.heap.size, 3, none⟩ = some (.string (S (b.den : Int))) ∧ X.frozen? ⟨w.heap.size, 0, none⟩ = false ∧ X.frozen? ⟨w.heap.size, 1, none⟩ = false ∧ X.frozen? ⟨w.heap.size, 2, none⟩ = false ∧ X.frozen? ⟨w.heap.size, 3, none⟩ = false) := fun X h => ⟨h.1, Row.cell_at h 0 rfl, Row.cell_at h 1 rfl, Row.cell_at h 2 rfl, Row.cell_at h 3 rfl, frozen_of_row _ _ 0 _ _ h.2, frozen_of_row _ _ 1 _ _ h.2, frozen_of_row _ _ 2 _ _ h.2, frozen_of_row _ _ 3 _ _ h.2⟩
  obtain ⟨so, co0, co1, co2, co3, fo0, fo1, fo2, fo3⟩ := Fo _ ro
  refine bodyPost_ret (v := .agg #[.string (S a.num), .string (S (a.den : Int)), .string (S b.num), .string (S (b.den : Int))]) ?res rfl ⟨rfl, hB⟩
  case res => simp [results, Tryz.results44, go_sem, co0, co1, co2, co3]
theorem pat_set {W : World} {p : Option Addr} {l : List Pt} {b : Nat} {vs : Array Value} {T : TypeId} (h : PAt W p l) (r : Row W b (.cells vs T)) (hne : T ≠ 53) (i : Nat) (u : Value) : PAt (W.setCell ⟨b, i, none⟩ u) p l :=
  h.elim .inl fun ⟨g, cur, e, hr, hx⟩ => .inr ⟨g, cur, e, Row.set_other hr u (fun e => by subst e; have := hr.2.symm.trans r.2; simp at this; exact hne this.2.symm), hx⟩
theorem pat_set3 {W : World} {p : Option Addr} {l : List Pt} {b : Nat} {vs : Array Value} {T : TypeId} {u0 u1 u2 : Value} (h : PAt W p l) (r : Row W b (.cells vs T)) (hne : T ≠ 53) : PAt (((W.setCell ⟨b, 0, none⟩ u0).setCell ⟨b, 1, none⟩ u1).setCell ⟨b, 2, none⟩ u2) p l :=
  pat_set (pat_set (pat_set h r hne _ _) (r.set_same rfl) hne _ _) ((r.set_same rfl).set_same rfl) hne _ _
/-- Integers four by four, in memory. -/
def X4 (W : World) (p : Option Addr) (n : Nat) (f : Nat → Nat → Int) : Prop := n = 0 ∨ ∃ g o, p = some ⟨g, o, none⟩ ∧ g < W.heap.size ∧ ∀ i j, i < n → j < 4 → W.cell? ⟨g, o + i * 4 + j, none⟩ = some (.int .i64 (f i j))
theorem X4.below {W W' : World} {p : Option Addr} {n : Nat} {f : Nat → Nat → Int} (h : X4 W p n f) (hB : Below W.heap.size W W') : X4 W' p n f :=
  h.elim .inl fun ⟨g, o, e, hg, hc⟩ => .inr ⟨g, o, e, Nat.lt_of_lt_of_le hg hB.size, fun i j hi hj => (hB.cell (p := ⟨g, _, none⟩) hg).trans (hc i j hi hj)⟩
def madeRate (a b : Int) : Rat := Rat.divInt (pk a 9) (1 + pk b 9)
theorem divInt_mn {n m d : Int} (hd : 0 < d) (h : n ≤ m) : Rat.divInt n d ≤ Rat.divInt m d := by
  rw [Rat.divInt_eq_div, Rat.divInt_eq_div]
  have h1 : (0 : Rat) < (d : Rat) := by exact_mod_cast hd
  have h2 : (n : Rat) ≤ (m : Rat) := by exact_mod_cast h
  have h3 := Rat.inv_pos.2 h1
  rw [Rat.div_def, Rat.div_def]
  exact Rat.mul_le_mul_of_nonneg_right h2 (Rat.le_of_lt h3)
theorem divInt_nn {n d : Int} (hd : 0 < d) (h : 0 ≤ n) : 0 ≤ Rat.divInt n d := by
  have := divInt_mn hd h
  simpa using this
theorem madeRate_ok (a b : Int) : 0 ≤ madeRate a b ∧ QDig 2 (madeRate a b) := by
  have h1 := pk_nonneg a (n := 9) (by decide); have h2 := pk_lt a (n := 9) (by decide); have h3 := pk_nonneg b (n := 9) (by decide); have h4 := pk_lt b (n := 9) (by decide)
  exact ⟨divInt_nn (by omega) h1, QDig.ofInt (by omega) (by unfold Dig; omega) (by unfold Dig; omega)⟩
end Go.Proofs.YtngohpgkceedeaaGreatDoor
