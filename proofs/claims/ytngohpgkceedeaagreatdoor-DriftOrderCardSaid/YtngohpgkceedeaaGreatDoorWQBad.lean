/-
  Fractions that are not valid: a difference of them is refused.
-/
import Derived.Test.YtngohpgkceedeaaGreatDoorWDInsert
set_option linter.unusedSimpArgs false
set_option linter.unusedVariables false
namespace Go.Proofs.YtngohpgkceedeaaGreatDoor
open Go Go.RowKit Go.Lib Go.Shelf

theorem Row.belowN {n : Nat} {W W' : World} {b : Nat} {o : Obj} (h : Row W b o) (hb : b < n) (hB : Below n W W') : Row W' b o := ⟨Nat.lt_of_lt_of_le h.1 hB.size, (hB.block b hb).trans h.2⟩
set_option maxRecDepth 100000 in
set_option maxHeartbeats 16000000 in
theorem wdo_bad (p : Nat) (f : Value) (a b : ByteArray) (w : World) (hk : Row w p (.cells #[.bool true] 100)) : Calls Tryz.prog 134 #[.pointer (some ⟨p, 0, none⟩), f, .string a, .string b] w (fun e w' => e = .returned (.string ⟨#[]⟩) ∧ Below w.heap.size w w') := by
  have hB : Below w.heap.size w w := Below.refl _ _
  have rk := hk
  have Fk : ∀ X, Row X p (.cells #[.bool true] 100) → (p < X.heap.size ∧ X.cell? ⟨p, 0, none⟩ = some (.bool true)) := fun X h => ⟨h.1, Row.cell_at h 0 rfl⟩
  obtain ⟨sk, ck0⟩ := Fk _ rk
  go_enter Tryz.func134, Tryz.ntmps134
  go_wp2
  go_ret
  exact ⟨rfl, hB⟩
set_option maxRecDepth 100000 in
set_option maxHeartbeats 16000000 in
theorem wmul_bad (p : Nat) (a b : ByteArray) (w : World) (hk : Row w p (.cells #[.bool true] 100)) : Calls Tryz.prog 68 #[.pointer (some ⟨p, 0, none⟩), .string a, .string b] w (fun e w' => e = .returned (.string ⟨#[]⟩) ∧ Below w.heap.size w w') := by
  have hB : Below w.heap.size w w := Below.refl _ _
  have MD := fun W a b hk => wdo_bad p (.func (.func 135) #[] #[]) a b W hk
  have rk := hk
  have Fk : ∀ X, Row X p (.cells #[.bool true] 100) → (p < X.heap.size ∧ X.cell? ⟨p, 0, none⟩ = some (.bool true)) := fun X h => ⟨h.1, Row.cell_at h 0 rfl⟩
  obtain ⟨sk, ck0⟩ := Fk _ rk
  go_enter Tryz.func68, Tryz.ntmps68
  go_wp2_with fail
  refine (MD _ _ _ rk).mono ?_
  rintro e W1 ⟨rfl, h1⟩
  clear sk ck0
  replace hB := hB.trans (h1.mono hB.size)
  replace rk := Row.below rk h1
  clear h1
  obtain ⟨sk, ck0⟩ := Fk _ rk
  go_wp2
  go_ret
  exact ⟨rfl, hB⟩
set_option maxRecDepth 100000 in
set_option maxHeartbeats 16000000 in
theorem wreduced_bad (p : Nat) (a b : ByteArray) (w : World) (hk : Row w p (.cells #[.bool true] 100)) : Calls Tryz.prog 69 #[.pointer (some ⟨p, 0, none⟩), .string a, .string b] w (fun e w' => e = .returned (.tuple #[.agg #[.string ⟨#[]⟩, .string ⟨#[]⟩], .int .i64 40]) ∧ Below w.heap.size w w') := by
  have hB : Below w.heap.size w w := Below.refl _ _
  have rk := hk
  have Fk : ∀ X, Row X p (.cells #[.bool true] 100) → (p < X.heap.size ∧ X.cell? ⟨p, 0, none⟩ = some (.bool true)) := fun X h => ⟨h.1, Row.cell_at h 0 rfl⟩
  obtain ⟨sk, ck0⟩ := Fk _ rk
  go_enter Tryz.func69, Tryz.ntmps69
  go_wp2_with fail
  clear Fk
  have sB := hB.size
  refine post_cut (fun X => Below w.heap.size w X ∧ Row X w.heap.size (.cells #[.string ⟨#[]⟩, .string ⟨#[]⟩] 26)) ⟨BW, RWh⟩ ?_
  clear rk
  clear sk ck0
  clear hB sB
  rintro V1 ⟨hB, ro⟩
  have Fo : ∀ X, Row X w.heap.size (.cells #[.string ⟨#[]⟩, .string ⟨#[]⟩] 26) → (w.heap.size < X.heap.size ∧ X.cell? ⟨w.heap.size, 0, none⟩ = some (.string ⟨#[]⟩) ∧ X.cell? ⟨w.heap.size, 1, none⟩ = some (.string ⟨#[]⟩) ∧ X.frozen? ⟨w.heap.size, 0, none⟩ = false ∧ X.frozen? ⟨w.heap.size, 1, none⟩ = false) := fun X h => ⟨h.1, Row.cell_at h 0 rfl, Row.cell_at h 1 rfl, frozen_of_row _ _ 0 _ _ h.2, frozen_of_row _ _ 1 _ _ h.2⟩
  obtain ⟨so, co0, co1, fo0, fo1⟩ := Fo _ ro
  refine bodyPost_ret (v := .tuple #[.agg #[.string ⟨#[]⟩, .string ⟨#[]⟩], .int .i64 40]) ?res rfl ⟨rfl, hB⟩
  case res => simp [results, Tryz.results69, go_sem, co0, co1]
set_option maxRecDepth 100000 in
set_option maxHeartbeats 16000000 in
theorem wcheck_bad (p s : Nat) (w : World) (hps : p ≠ s) (hk : Row w p (.cells #[.bool false] 100)) (hs : Row w s (.cells #[.string ⟨#[]⟩, .string ⟨#[]⟩, .string ⟨#[]⟩, .string ⟨#[]⟩] 26)) : Calls Tryz.prog 67 #[.pointer (some ⟨p, 0, none⟩), .slice (some ⟨s, 0, none⟩) 2 2] w (fun e w' => (∃ v, e = .returned v) ∧ Row w' p (.cells #[.bool true] 100) ∧ ∀ n, n ≤ p → n ≤ w.heap.size → Below n w w') := by
  have hB : Below w.heap.size w w := Below.refl _ _
  have MV := fun W => qvalid_zero W
  unfold BoolOk at MV
  have rk := hk
  have Fk : ∀ X, Row X p (.cells #[.bool false] 100) → (p < X.heap.size ∧ X.cell? ⟨p, 0, none⟩ = some (.bool false) ∧ X.frozen? ⟨p, 0, none⟩ = false) := fun X h => ⟨h.1, Row.cell_at h 0 rfl, frozen_of_row _ _ 0 _ _ h.2⟩
  obtain ⟨sk, ck0, fk0⟩ := Fk _ rk
  have rs := hs
  have Fs : ∀ X, Row X s (.cells #[.string ⟨#[]⟩, .string ⟨#[]⟩, .string ⟨#[]⟩, .string ⟨#[]⟩] 26) → (s < X.heap.size ∧ X.cell? ⟨s, 0, none⟩ = some (.string ⟨#[]⟩) ∧ X.cell? ⟨s, 1, none⟩ = some (.string ⟨#[]⟩) ∧ X.cell? ⟨s, 2, none⟩ = some (.string ⟨#[]⟩) ∧ X.cell? ⟨s, 3, none⟩ = some (.string ⟨#[]⟩)) := fun X h => ⟨h.1, Row.cell_at h 0 rfl, Row.cell_at h 1 rfl, Row.cell_at h 2 rfl, Row.cell_at h 3 rfl⟩
  obtain ⟨ss, cs0, cs1, cs2, cs3⟩ := Fs _ rs
  have dps := hps
  go_enter Tryz.func67, Tryz.ntmps67
  go_wp2_with fail
  refine wp_loop_unroll (loopWp_step ?_)
  go_wp2_with fail
  have dk_r : p < w.heap.size := by omega
  have sB := hB.size
  refine world_cut (fun X => Below w.heap.size w X ∧ Row X p (.cells #[.bool false] 100) ∧ Row X s (.cells #[.string ⟨#[]⟩, .string ⟨#[]⟩, .string ⟨#[]⟩, .string ⟨#[]⟩] 26) ∧ Row X w.heap.size (.cells #[.string ⟨#[]⟩, .string ⟨#[]⟩] 26)) ⟨BW, RWh, RWh, RWh⟩ ?_
  clear rk
  clear sk ck0 fk0
  clear rs
  clear ss cs0 cs1 cs2 cs3
  clear hB sB
  rintro V1 ⟨hB, rk, rs, rr⟩
  obtain ⟨sk, ck0, fk0⟩ := Fk _ rk
  obtain ⟨ss, cs0, cs1, cs2, cs3⟩ := Fs _ rs
  have Fr : ∀ X, Row X w.heap.size (.cells #[.string ⟨#[]⟩, .string ⟨#[]⟩] 26) → (w.heap.size < X.heap.size ∧ X.cell? ⟨w.heap.size, 0, none⟩ = some (.string ⟨#[]⟩) ∧ X.cell? ⟨w.heap.size, 1, none⟩ = some (.string ⟨#[]⟩)) := fun X h => ⟨h.1, Row.cell_at h 0 rfl, Row.cell_at h 1 rfl⟩
  obtain ⟨sr, cr0, cr1⟩ := Fr _ rr
  refine (MV _).mono ?_
  rintro e W2 ⟨rfl, h1⟩
  clear sk ck0 fk0
  clear ss cs0 cs1 cs2 cs3
  clear sr cr0 cr1
  replace hB := hB.trans (h1.mono hB.size)
  replace rk := Row.below rk h1
  replace rs := Row.below rs h1
  replace rr := Row.below rr h1
  clear h1
  obtain ⟨sk, ck0, fk0⟩ := Fk _ rk
  obtain ⟨ss, cs0, cs1, cs2, cs3⟩ := Fs _ rs
  obtain ⟨sr, cr0, cr1⟩ := Fr _ rr
  go_wp2_with fail
  refine loopWp_step ?_
  go_wp2_with fail
  refine loopWp_step ?_
  go_wp2_with fail
  have sB := hB.size
  go_end0
  exact ⟨⟨_, rfl⟩, RWh, fun n h1 h2 => Below.alloc (Below.setCell (Below.setCell (hB.mono h2) h1 _) h1 _) (by simp; omega) _⟩
set_option maxRecDepth 100000 in
set_option maxHeartbeats 16000000 in
theorem wsum_bad (F : FuncId) (f : Value) (hf : f = .func (.func F) #[] #[]) (w : World) : Calls Tryz.prog 70 #[f, .agg #[.string ⟨#[]⟩, .string ⟨#[]⟩], .agg #[.string ⟨#[]⟩, .string ⟨#[]⟩]] w (fun e w' => e = .returned (.tuple #[.agg #[.string ⟨#[]⟩, .string ⟨#[]⟩], .int .i64 40]) ∧ Below w.heap.size w w') := by
  clear hf
  have hB : Below w.heap.size w w := Below.refl _ _
  have MC := fun W s p h1 h2 h3 => wcheck_bad p s W h1 h2 h3
  go_enter Tryz.func70, Tryz.ntmps70
  go_wp2_with fail
  have d0_o : w.heap.size ≤ w.heap.size + 1 + 1 := by have := hB.size; omega
  have d0_k : w.heap.size ≤ w.heap.size + 1 + 1 + 1 := by have := hB.size; omega
  have sB := hB.size
  refine world_cut (fun X => Below w.heap.size w X ∧ Row X w.heap.size (.cells #[.string ⟨#[]⟩, .string ⟨#[]⟩] 26) ∧ Row X (w.heap.size + 1) (.cells #[.string ⟨#[]⟩, .string ⟨#[]⟩] 26) ∧ Row X (w.heap.size + 1 + 1) (.cells #[.string ⟨#[]⟩, .string ⟨#[]⟩] 26) ∧ Row X (w.heap.size + 1 + 1 + 1) (.cells #[.bool false] 100) ∧ Row X (w.heap.size + 1 + 1 + 1 + 1) (.cells #[.string ⟨#[]⟩, .string ⟨#[]⟩, .string ⟨#[]⟩, .string ⟨#[]⟩] 26)) ⟨BW, RWh, RWh, RWh, RWh, RWh⟩ ?_
  clear hB sB
  rintro V1 ⟨hB, ra, rb, ro, rk, rs⟩
  have Fa : ∀ X, Row X w.heap.size (.cells #[.string ⟨#[]⟩, .string ⟨#[]⟩] 26) → (w.heap.size < X.heap.size ∧ X.cell? ⟨w.heap.size, 0, none⟩ = some (.string ⟨#[]⟩) ∧ X.cell? ⟨w.heap.size, 1, none⟩ = some (.string ⟨#[]⟩)) := fun X h => ⟨h.1, Row.cell_at h 0 rfl, Row.cell_at h 1 rfl⟩
  obtain ⟨sa, ca0, ca1⟩ := Fa _ ra
  have Fb : ∀ X, Row X (w.heap.size + 1) (.cells #[.string ⟨#[]⟩, .string ⟨#[]⟩] 26) → (w.heap.size + 1 < X.heap.size ∧ X.cell? ⟨w.heap.size + 1, 0, none⟩ = some (.string ⟨#[]⟩) ∧ X.cell? ⟨w.heap.size + 1, 1, none⟩ = some (.string ⟨#[]⟩)) := fun X h => ⟨h.1, Row.cell_at h 0 rfl, Row.cell_at h 1 rfl⟩
  obtain ⟨sb, cb0, cb1⟩ := Fb _ rb
  have Fo : ∀ X, Row X (w.heap.size + 1 + 1) (.cells #[.string ⟨#[]⟩, .string ⟨#[]⟩] 26) → (w.heap.size + 1 + 1 < X.heap.size ∧ X.cell? ⟨w.heap.size + 1 + 1, 0, none⟩ = some (.string ⟨#[]⟩) ∧ X.cell? ⟨w.heap.size + 1 + 1, 1, none⟩ = some (.string ⟨#[]⟩) ∧ X.frozen? ⟨w.heap.size + 1 + 1, 0, none⟩ = false ∧ X.frozen? ⟨w.heap.size + 1 + 1, 1, none⟩ = false) := fun X h => ⟨h.1, Row.cell_at h 0 rfl, Row.cell_at h 1 rfl, frozen_of_row _ _ 0 _ _ h.2, frozen_of_row _ _ 1 _ _ h.2⟩
  obtain ⟨so, co0, co1, fo0, fo1⟩ := Fo _ ro
  have Fk : ∀ X, Row X (w.heap.size + 1 + 1 + 1) (.cells #[.bool false] 100) → (w.heap.size + 1 + 1 + 1 < X.heap.size ∧ X.cell? ⟨w.heap.size + 1 + 1 + 1, 0, none⟩ = some (.bool false) ∧ X.frozen? ⟨w.heap.size + 1 + 1 + 1, 0, none⟩ = false) := fun X h => ⟨h.1, Row.cell_at h 0 rfl, frozen_of_row _ _ 0 _ _ h.2⟩
  obtain ⟨sk, ck0, fk0⟩ := Fk _ rk
  have Fs : ∀ X, Row X (w.heap.size + 1 + 1 + 1 + 1) (.cells #[.string ⟨#[]⟩, .string ⟨#[]⟩, .string ⟨#[]⟩, .string ⟨#[]⟩] 26) → (w.heap.size + 1 + 1 + 1 + 1 < X.heap.size ∧ X.cell? ⟨w.heap.size + 1 + 1 + 1 + 1, 0, none⟩ = some (.string ⟨#[]⟩) ∧ X.cell? ⟨w.heap.size + 1 + 1 + 1 + 1, 1, none⟩ = some (.string ⟨#[]⟩) ∧ X.cell? ⟨w.heap.size + 1 + 1 + 1 + 1, 2, none⟩ = some (.string ⟨#[]⟩) ∧ X.cell? ⟨w.heap.size + 1 + 1 + 1 + 1, 3, none⟩ = some (.string ⟨#[]⟩)) := fun X h => ⟨h.1, Row.cell_at h 0 rfl, Row.cell_at h 1 rfl, Row.cell_at h 2 rfl, Row.cell_at h 3 rfl⟩
  obtain ⟨ss, cs0, cs1, cs2, cs3⟩ := Fs _ rs
  refine (MC _ _ _ (by omega) rk rs).mono ?_
  rintro e W1 ⟨⟨v, rfl⟩, rk2, h9⟩
  have h1 := h9 (w.heap.size + 1 + 1 + 1) (Nat.le_refl _) (by omega)
  clear sa ca0 ca1
  clear sb cb0 cb1
  clear so co0 co1 fo0 fo1
  clear sk ck0 fk0
  clear ss cs0 cs1 cs2 cs3
  replace hB := hB.trans (h9 w.heap.size (by omega) hB.size)
  replace ra := Row.belowN ra (by omega) h1
  replace rb := Row.belowN rb (by omega) h1
  replace ro := Row.belowN ro (by omega) h1
  clear rs rk h1 h9
  have rk := rk2
  clear rk2
  clear Fs
  clear Fk
  obtain ⟨sa, ca0, ca1⟩ := Fa _ ra
  obtain ⟨sb, cb0, cb1⟩ := Fb _ rb
  obtain ⟨so, co0, co1, fo0, fo1⟩ := Fo _ ro
  have Fk : ∀ X, Row X (w.heap.size + 1 + 1 + 1) (.cells #[.bool true] 100) → (w.heap.size + 1 + 1 + 1 < X.heap.size ∧ X.cell? ⟨w.heap.size + 1 + 1 + 1, 0, none⟩ = some (.bool true) ∧ X.frozen? ⟨w.heap.size + 1 + 1 + 1, 0, none⟩ = false) := fun X h => ⟨h.1, Row.cell_at h 0 rfl, frozen_of_row _ _ 0 _ _ h.2⟩
  obtain ⟨sk, ck0, fk0⟩ := Fk _ rk
  have MM := fun W a b hk => wmul_bad (w.heap.size + 1 + 1 + 1) a b W hk
  have MD := fun W a b hk => wdo_bad (w.heap.size + 1 + 1 + 1) f a b W hk
  have MR := fun W a b hk => wreduced_bad (w.heap.size + 1 + 1 + 1) a b W hk
  go_wp2_with fail
  refine wp_region_vals [.pointer (some ⟨w.heap.size + 1 + 1 + 1, 0, none⟩), f, .pointer (some ⟨w.heap.size + 1 + 1 + 1, 0, none⟩), .pointer (some ⟨w.heap.size, 0, none⟩), .string ⟨#[]⟩, .pointer (some ⟨w.heap.size + 1, 1, none⟩), .string ⟨#[]⟩, .string ⟨#[]⟩, .pointer (some ⟨w.heap.size + 1 + 1 + 1, 0, none⟩), .pointer (some ⟨w.heap.size + 1, 0, none⟩), .string ⟨#[]⟩, .pointer (some ⟨w.heap.size, 1, none⟩), .string ⟨#[]⟩, .string ⟨#[]⟩, .string ⟨#[]⟩, .string ⟨#[]⟩] (by kernel_rfl) (by kernel_rfl) rfl (allVals.cons qv0 (allVals.cons qv0 (allVals.cons qv0 (allVals.cons qv0 (allVals.cons (qv1 fun X h => Fa X (Row.below ra h)) (allVals.cons qv0 (allVals.cons (qv1 fun X h => Fb X (Row.below rb h)) (allVals.cons (qv2 fun X h => MM X _ _ (Row.below rk h)) (allVals.cons qv0 (allVals.cons qv0 (allVals.cons (qv1 fun X h => Fb X (Row.below rb h)) (allVals.cons qv0 (allVals.cons (qv1 fun X h => Fa X (Row.below ra h)) (allVals.cons (qv2 fun X h => MM X _ _ (Row.below rk h)) (allVals.cons (qv2 fun X h => MD X _ _ (Row.below rk h)) (allVals.cons qv0 trivial)))))))))))))))) ?_
  rintro W h1
  clear sa ca0 ca1
  clear sb cb0 cb1
  clear so co0 co1 fo0 fo1
  clear sk ck0 fk0
  replace hB := hB.trans (h1.mono hB.size)
  replace ra := Row.below ra h1
  replace rb := Row.below rb h1
  replace ro := Row.below ro h1
  replace rk := Row.below rk h1
  clear h1
  obtain ⟨sa, ca0, ca1⟩ := Fa _ ra
  obtain ⟨sb, cb0, cb1⟩ := Fb _ rb
  obtain ⟨so, co0, co1, fo0, fo1⟩ := Fo _ ro
  obtain ⟨sk, ck0, fk0⟩ := Fk _ rk
  simp only [setVals, List.setIfInBounds_toArray, List.set_cons_succ, List.set_cons_zero]
  go_wp2_with fail
  clear ra
  clear sa ca0 ca1
  clear Fa
  clear rb
  clear sb cb0 cb1
  clear Fb
  refine (MM _ _ _ rk).mono ?_
  rintro e W2 ⟨rfl, h1⟩
  clear so co0 co1 fo0 fo1
  clear sk ck0 fk0
  replace hB := hB.trans (h1.mono hB.size)
  replace ro := Row.below ro h1
  replace rk := Row.below rk h1
  clear h1
  obtain ⟨so, co0, co1, fo0, fo1⟩ := Fo _ ro
  obtain ⟨sk, ck0, fk0⟩ := Fk _ rk
  go_wp2_with fail
  refine (MR _ _ _ rk).mono ?_
  rintro e W3 ⟨rfl, h1⟩
  clear so co0 co1 fo0 fo1
  clear sk ck0 fk0
  replace hB := hB.trans (h1.mono hB.size)
  replace ro := Row.below ro h1
  replace rk := Row.below rk h1
  clear h1
  obtain ⟨so, co0, co1, fo0, fo1⟩ := Fo _ ro
  obtain ⟨sk, ck0, fk0⟩ := Fk _ rk
  go_wp2_with fail
  clear Fk
  have sB := hB.size
  refine post_cut (fun X => Below w.heap.size w X ∧ Row X (w.heap.size + 1 + 1) (.cells #[.string ⟨#[]⟩, .string ⟨#[]⟩] 26)) ⟨BW, RWh⟩ ?_
  clear ro
  clear so co0 co1 fo0 fo1
  clear rk
  clear sk ck0 fk0
  clear hB sB
  rintro V4 ⟨hB, ro⟩
  obtain ⟨so, co0, co1, fo0, fo1⟩ := Fo _ ro
  refine bodyPost_ret (v := .tuple #[.agg #[.string ⟨#[]⟩, .string ⟨#[]⟩], .int .i64 40]) ?res rfl ⟨rfl, hB⟩
  case res => simp [results, Tryz.results70, go_sem, co0, co1]
set_option maxRecDepth 100000 in
set_option maxHeartbeats 16000000 in
theorem qsub_zero (w : World) : Calls Tryz.prog 20 #[.agg #[.string ⟨#[]⟩, .string ⟨#[]⟩], .agg #[.string ⟨#[]⟩, .string ⟨#[]⟩]] w (fun e w' => e = .returned (.tuple #[.agg #[.string ⟨#[]⟩, .string ⟨#[]⟩], .int .i64 40]) ∧ Below w.heap.size w w') := by
  have hB : Below w.heap.size w w := Below.refl _ _
  have MS := fun W => wsum_bad 71 _ rfl W
  go_enter Tryz.func20, Tryz.ntmps20
  go_wp2_with fail
  have d0_o : w.heap.size ≤ w.heap.size + 1 + 1 := by have := hB.size; omega
  have sB := hB.size
  refine world_cut (fun X => Below w.heap.size w X ∧ Row X (w.heap.size + 1 + 1) (.cells #[.string ⟨#[]⟩, .string ⟨#[]⟩] 26)) ⟨BW, RWh⟩ ?_
  clear hB sB
  rintro V1 ⟨hB, ro⟩
  have Fo : ∀ X, Row X (w.heap.size + 1 + 1) (.cells #[.string ⟨#[]⟩, .string ⟨#[]⟩] 26) → (w.heap.size + 1 + 1 < X.heap.size ∧ X.cell? ⟨w.heap.size + 1 + 1, 0, none⟩ = some (.string ⟨#[]⟩) ∧ X.cell? ⟨w.heap.size + 1 + 1, 1, none⟩ = some (.string ⟨#[]⟩) ∧ X.frozen? ⟨w.heap.size + 1 + 1, 0, none⟩ = false ∧ X.frozen? ⟨w.heap.size + 1 + 1, 1, none⟩ = false) := fun X h => ⟨h.1, Row.cell_at h 0 rfl, Row.cell_at h 1 rfl, frozen_of_row _ _ 0 _ _ h.2, frozen_of_row _ _ 1 _ _ h.2⟩
  obtain ⟨so, co0, co1, fo0, fo1⟩ := Fo _ ro
  refine (MS _).mono ?_
  rintro e W2 ⟨rfl, h1⟩
  clear so co0 co1 fo0 fo1
  replace hB := hB.trans (h1.mono hB.size)
  replace ro := Row.below ro h1
  clear h1
  obtain ⟨so, co0, co1, fo0, fo1⟩ := Fo _ ro
  go_wp2_with fail
  have sB := hB.size
  refine post_cut (fun X => Below w.heap.size w X ∧ Row X (w.heap.size + 1 + 1) (.cells #[.string ⟨#[]⟩, .string ⟨#[]⟩] 26)) ⟨BW, RWh⟩ ?_
  clear ro
  clear so co0 co1 fo0 fo1
  clear hB sB
  rintro V3 ⟨hB, ro⟩
  obtain ⟨so, co0, co1, fo0, fo1⟩ := Fo _ ro
  refine bodyPost_ret (v := .tuple #[.agg #[.string ⟨#[]⟩, .string ⟨#[]⟩], .int .i64 40]) ?res rfl ⟨rfl, hB⟩
  case res => simp [results, Tryz.results20, go_sem, co0, co1]
end Go.Proofs.YtngohpgkceedeaaGreatDoor
