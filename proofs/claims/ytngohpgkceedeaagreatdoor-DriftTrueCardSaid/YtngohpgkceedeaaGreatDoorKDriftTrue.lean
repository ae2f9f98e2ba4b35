/-
  DriftTrue: the walk.
-/
import Derived.Test.YtngohpgkceedeaaGreatDoorKDArgs
import Derived.Test.YtngohpgkceedeaaGreatDoorKDTruePlain
set_option linter.unusedSimpArgs false
set_option linter.unusedVariables false
namespace Go.Proofs.YtngohpgkceedeaaGreatDoor
open Go Go.RowKit Go.Lib Go.Shelf
attribute [local go_sem] normalQ

set_option maxRecDepth 100000 in
set_option maxHeartbeats 16000000 in
theorem driftTrue_any (r0 r1 st : Int) (pc : Option Addr) (nc cc : Nat) (fc : Nat → Nat → Int) (pp : Option Addr) (np cp : Nat) (fp : Nat → Nat → Int) (ti : Int) (hr : IsInt r0 ∧ IsInt r1) (hst : IsInt st) (w : World) (hc : nc ≤ 9223372036854775807 ∧ XK 1 w pc nc fc ∧ ∀ i j, i < nc → j < 1 → IsInt (fc i j)) (hp : np ≤ 9223372036854775807 ∧ XK 3 w pp np fp ∧ ∀ i j, i < np → j < 3 → IsInt (fp i j)) (hti : IsInt ti) (he : Env w) :
    Calls Tryz.prog 9 #[.agg #[.int .i64 r0, .int .i64 r1], .int .i64 st, .slice pc nc cc, .slice pp np cp, .int .i64 ti] w (BoolOk true w) := by
  have hB : Below w.heap.size w w := Below.refl _ _
  have NER : (26 : TypeId) ≠ 53 := by decide
  have NEH : (49 : TypeId) ≠ 53 := by decide
  have NHR : (49 : TypeId) ≠ 26 := by decide
  have NEI : (29 : TypeId) ≠ 53 := by decide
  have MS := fun W (H : Env W) => sane12 W H
  obtain ⟨i0, hi0, hz0, hz1, hz2⟩ := info_parts ratioInfo
  obtain ⟨hnc, hC, hfc⟩ := hc
  have HCC := Lib.hid hC
  obtain ⟨hnp, hP, hfp⟩ := hp
  have HPP := Lib.hid hP
  clear hC hP
  have R0 := fun W => pickL12 r0 9 hr.1 (by decide) W
  have R1 := fun W => pickL12 r1 9 hr.2 (by decide) W
  have ra := pk_nonneg r0 (n := 9) (by decide)
  have rb := pk_lt r0 (n := 9) (by decide)
  have rc := pk_nonneg r1 (n := 9) (by decide)
  have rd := pk_lt r1 (n := 9) (by decide)
  have KS := fun W => pickL12 st 100 hst (by decide) W
  have sa := pk_nonneg st (n := 100) (by decide)
  have sb := pk_lt st (n := 100) (by decide)
  have MR := fun W (H : Env W) => lof (n := pk r0 9) (d := 1 + pk r1 9) ⟨by omega, by omega⟩ ⟨by omega, by omega⟩ (by omega) W H
  have MV0 := fun W (H : Env W) => lof (n := pk st 100) (d := 7) ⟨by omega, by omega⟩ (by decide) (by decide) W H
  have hm := madeRate_ok r0 r1
  have dV : ∀ i, i ≤ 60 → QDig 5 (vTrue (madeRate r0 r1) (Rat.divInt (pk st 100) 7) fc i) := fun i hi => vTrue_dig (n := pk r0 9) (d := 1 + pk r1 9) (s := pk st 100) (by omega) (by omega) (by omega) (by omega) (by omega) (by omega) fc hi
  rw [show Rat.divInt (pk r0 9) (1 + pk r1 9) = madeRate r0 r1 from rfl] at MR
  generalize madeRate r0 r1 = r at *
  have hwr : IntKind.i64.wrap (1 + pk r1 9) = 1 + pk r1 9 := by rw [IntKind.wrap_i64]; omega
  generalize pk r0 9 = kr0 at *
  generalize pk r1 9 = kr1 at *
  clear ra rb rc rd hr
  have v0e := vTrue_zero r (Rat.divInt (pk st 100) 7) fc
  have VS := fun i => vTrue_succ r (Rat.divInt (pk st 100) 7) fc i
  have SL := fun i k => vTrue_slow hm.1 (Rat.divInt (pk st 100) 7) fc i k
  generalize vTrue r (Rat.divInt (pk st 100) 7) fc = V at *
  rw [← v0e] at MV0
  generalize pk st 100 = ks at *
  clear v0e sa sb hst
  have HVS := Lib.hid VS
  have HSL := Lib.hid SL
  have HDV := Lib.hid dV
  have HM := Lib.hid hm
  clear VS SL dV hm
  unfold BoolOk at MS
  unfold Q at *
  go_enter Tryz.func9, Tryz.ntmps9
  go_wp2_with fail
  have sB := hB.size
  refine world_cut (fun X => Below w.heap.size w X ∧ Row X w.heap.size (.cells #[.int .i64 r0, .int .i64 r1] 50)) ⟨BW, RWk⟩ ?_
  clear hB sB
  rintro V1 ⟨hB, rrt⟩
  have Frt : ∀ X, Row X w.heap.size (.cells #[.int .i64 r0, .int .i64 r1] 50) → (w.heap.size < X.heap.size ∧ X.cell? ⟨w.heap.size, 0, none⟩ = some (.int .i64 r0) ∧ X.cell? ⟨w.heap.size, 1, none⟩ = some (.int .i64 r1)) := fun X h => ⟨h.1, Row.cell_at h 0 rfl, Row.cell_at h 1 rfl⟩
  obtain ⟨srt, crt0, crt1⟩ := Frt _ rrt
  refine (MS _ (he.below hB)).mono ?_
  rintro e W2 ⟨rfl, h1⟩
  clear srt crt0 crt1
  replace hB := hB.trans (h1.mono hB.size)
  replace rrt := Row.below rrt h1
  clear h1
  obtain ⟨srt, crt0, crt1⟩ := Frt _ rrt
  go_wp2_with fail
  have drt_h := rrt.1
  have d0_h := hB.size
  refine wp_region_items 10 [.val (.pointer (some ⟨w.heap.size, 0, none⟩)), .val (.int .i64 r0), .val (.int .i64 kr0), .val (.pointer (some ⟨w.heap.size, 1, none⟩)), .val (.int .i64 r1), .val (.int .i64 kr1), .val (.int .i64 (1 + kr1)), .val (.agg #[.string (S r.num), .string (S (r.den : Int))]), .val (.agg #[.string (S r.num), .string (S (r.den : Int)), .slice none 0 0]), .say (fresh _ (.cells #[.string ⟨#[]⟩, .string ⟨#[]⟩, .slice none 0 0] 49))] (by kernel_rfl) (by kernel_rfl) ⟨fresh_mono _ _, trivial⟩ (allItems.cons qi0 (allItems.cons (qi1 fun X h => Frt X (Row.below rrt h)) (allItems.cons (qi2 fun X h => R0 X) (allItems.cons qi0 (allItems.cons (qi1 fun X h => Frt X (Row.below rrt h)) (allItems.cons (qi2 fun X h => R1 X) (allItems.cons (qif hwr) (allItems.cons (qi2 fun X h => MR X (he.below (hB.trans (h.mono hB.size)))) (allItems.cons qi0 (allItems.cons qia trivial)))))))))) ?_
  rintro W h1
  clear srt crt0 crt1
  replace hB := hB.trans (h1.mono hB.size)
  replace rrt := Row.below rrt h1
  clear h1
  obtain ⟨srt, crt0, crt1⟩ := Frt _ rrt
  simp only [setItems, List.setIfInBounds_toArray, List.set_cons_succ, List.set_cons_zero, List.take_succ_cons, List.take_zero, List.drop_succ_cons, List.drop_zero]
  rintro _ ⟨ph, rfl, hh, rh⟩
  replace drt_h := Nat.lt_of_lt_of_le drt_h hh
  replace d0_h := Nat.le_trans d0_h hh
  have Fh : ∀ X, Row X ph (.cells #[.string ⟨#[]⟩, .string ⟨#[]⟩, .slice none 0 0] 49) → (ph < X.heap.size ∧ X.cell? ⟨ph, 0, none⟩ = some (.string ⟨#[]⟩) ∧ X.cell? ⟨ph, 1, none⟩ = some (.string ⟨#[]⟩) ∧ X.cell? ⟨ph, 2, none⟩ = some (.slice none 0 0) ∧ X.frozen? ⟨ph, 0, none⟩ = false ∧ X.frozen? ⟨ph, 1, none⟩ = false ∧ X.frozen? ⟨ph, 2, none⟩ = false) := fun X h => ⟨h.1, Row.cell_at h 0 rfl, Row.cell_at h 1 rfl, Row.cell_at h 2 rfl, frozen_of_row _ _ 0 _ _ h.2, frozen_of_row _ _ 1 _ _ h.2, frozen_of_row _ _ 2 _ _ h.2⟩
  obtain ⟨sh, ch0, ch1, ch2, fh0, fh1, fh2⟩ := Fh _ rh
  go_wp2_with fail
  clear Frt
  have sB := hB.size
  refine world_cut (fun X => Below w.heap.size w X ∧ Row X ph (.cells #[.string (S r.num), .string (S (r.den : Int)), .slice none 0 0] 49)) ⟨BW, RWk⟩ ?_
  clear rrt
  clear srt crt0 crt1
  clear rh
  clear sh ch0 ch1 ch2 fh0 fh1 fh2
  clear hB sB
  rintro V3 ⟨hB, rh⟩
  clear Fh
  have Fh : ∀ X, Row X ph (.cells #[.string (S r.num), .string (S (r.den : Int)), .slice none 0 0] 49) → (ph < X.heap.size ∧ X.cell? ⟨ph, 0, none⟩ = some (.string (S r.num)) ∧ X.cell? ⟨ph, 1, none⟩ = some (.string (S (r.den : Int))) ∧ X.cell? ⟨ph, 2, none⟩ = some (.slice none 0 0) ∧ X.frozen? ⟨ph, 0, none⟩ = false ∧ X.frozen? ⟨ph, 1, none⟩ = false ∧ X.frozen? ⟨ph, 2, none⟩ = false) := fun X h => ⟨h.1, Row.cell_at h 0 rfl, Row.cell_at h 1 rfl, Row.cell_at h 2 rfl, frozen_of_row _ _ 0 _ _ h.2, frozen_of_row _ _ 1 _ _ h.2, frozen_of_row _ _ 2 _ _ h.2⟩
  obtain ⟨sh, ch0, ch1, ch2, fh0, fh1, fh2⟩ := Fh _ rh
  refine (KS _).mono ?_
  rintro e W4 ⟨rfl, h1⟩
  clear sh ch0 ch1 ch2 fh0 fh1 fh2
  replace hB := hB.trans (h1.mono hB.size)
  replace rh := Row.below rh h1
  clear h1
  obtain ⟨sh, ch0, ch1, ch2, fh0, fh1, fh2⟩ := Fh _ rh
  go_wp2_with fail
  refine (MV0 _ (he.below hB)).mono ?_
  rintro e W5 ⟨rfl, h1⟩
  clear sh ch0 ch1 ch2 fh0 fh1 fh2
  replace hB := hB.trans (h1.mono hB.size)
  replace rh := Row.below rh h1
  clear h1
  obtain ⟨sh, ch0, ch1, ch2, fh0, fh1, fh2⟩ := Fh _ rh
  go_wp2_with fail
  have dh_b3 : ph < W5.heap.size + 1 := by omega
  have sB := hB.size
  refine wp_cut (fun X => Below w.heap.size w X ∧ Row X ph (.cells #[.string (S r.num), .string (S (r.den : Int)), .slice none 0 0] 49) ∧ Row X (W5.heap.size + 1) (.cells #[.string (S (V 0).num), .string (S ((V 0).den : Int))] 26)) ⟨BW, RWk, RWk⟩ ?_
  clear rh
  clear sh ch0 ch1 ch2 fh0 fh1 fh2
  clear hB sB
  rintro V6 ⟨hB, rh, rb3⟩
  obtain ⟨sh, ch0, ch1, ch2, fh0, fh1, fh2⟩ := Fh _ rh
  have Fb3 : ∀ X, Row X (W5.heap.size + 1) (.cells #[.string (S (V 0).num), .string (S ((V 0).den : Int))] 26) → (W5.heap.size + 1 < X.heap.size ∧ X.cell? ⟨W5.heap.size + 1, 0, none⟩ = some (.string (S (V 0).num)) ∧ X.cell? ⟨W5.heap.size + 1, 1, none⟩ = some (.string (S ((V 0).den : Int)))) := fun X h => ⟨h.1, Row.cell_at h 0 rfl, Row.cell_at h 1 rfl⟩
  obtain ⟨sb3, cb30, cb31⟩ := Fb3 _ rb3
  clear sh ch0 ch1 ch2 fh0 fh1 fh2
  clear sb3 cb30 cb31
  go_loopw [14, 15] (fun v14 v15 wr => ∃ i : Nat, v15 = .int .i64 (i : Int) ∧ i ≤ nc ∧ i ≤ 60 ∧ wr.ownsRow w.heap.size 26 2 v14 (i + 1) (rCells V (i + 1)) ∧ Below w.heap.size w wr ∧ Row wr (ph) (.cells #[.string (S r.num), .string (S (r.den : Int)), .slice none 0 0] 49)) (fun _ v15 _ => (61 - intOf v15).toNat)
  case atStart => exact ⟨0, rfl, Nat.zero_le _, Nat.zero_le _, own_one rb3 (by have := hB.size; omega), hB, rh⟩
  case round =>
    clear hB rh rb3
    obtain ⟨i, rfl, hin, hi60, hown, hB, rh⟩ := hrel
    obtain ⟨g, cap, cur, rfl, hg0, rvg, hx, HOWN⟩ := own_split (show 0 < i + 1 from Nat.succ_pos _) hown
    clear hown
    have HX := Lib.hid hx
    clear hx
    rcases Nat.lt_or_ge i (min nc 60) with hlt | hge
    · have h1 : i < nc := by omega
      have h2 : i < 60 := by omega
      have hiI : (i : Int) < (nc : Int) := by omega
      have hi6 : (i : Int) < 60 := by omega
      have hi1 : (i : Int) < (i : Int) + 1 := by omega
      obtain ⟨u0, u1⟩ := own_vals rvg HX.out (Nat.lt_succ_self i)
      obtain ⟨gx, ox, rfl, hgx, hcx⟩ : ∃ g o, pc = some ⟨g, o, none⟩ ∧ g < w.heap.size ∧ ∀ i j, i < nc → j < 1 → w.cell? ⟨g, o + i * 1 + j, none⟩ = some (.int .i64 (fc i j)) := HCC.out.resolve_left (by omega)
      obtain ⟨y0, e0⟩ : ∃ y, y = fc i 0 := ⟨_, rfl⟩
      have cx0 : w.cell? ⟨gx, ox + i, none⟩ = some (.int .i64 y0) := by rw [e0]; have := hcx i 0 h1 (by decide); simpa using this
      have I0 : IsInt y0 := e0 ▸ hfc i 0 h1 (by decide)
      have KC := fun W => pickL12 y0 9 I0 (by decide) W
      have k1 := pk_nonneg y0 (n := 9) (by decide)
      have k2 := pk_lt y0 (n := 9) (by decide)
      have hw1 : IntKind.i64.wrap (pk y0 9 - 4) = pk y0 9 - 4 := by rw [IntKind.wrap_i64]; omega
      have MO := fun W (H : Env W) => lof (n := pk y0 9 - 4) (d := 4) ⟨by omega, by omega⟩ (by decide) (by decide) W H
      have dq : QDig 1 (Rat.divInt (pk y0 9 - 4) 4) := QDig.ofInt (by decide) (by unfold Dig; omega) (by unfold Dig; omega)
      have vs := HVS.out i
      rw [← e0] at vs
      have MM := fun W (H : Env W) => qmul (j := 2) (k := 1) HM.out.2 dq (by omega) W H
      have MA := fun W (H : Env W) => qadd (j := 5) (k := 3) (HDV.out i (by omega)) (QDig.mul (j := 2) (k := 1) HM.out.2 dq) (by omega) W H
      rw [vs] at MA
      unfold QOk at MM MA
      unfold Q at *
      generalize pk y0 9 = kc at *
      generalize Rat.divInt (kc - 4) 4 = q at *
      generalize r * q = sq at *
      clear vs dq k1 k2 e0 I0 hcx
      obtain ⟨sh, ch0, ch1, ch2, fh0, fh1, fh2⟩ := Fh _ rh
      have Fvg : ∀ X, Row X g (.cells cur 26) → (g < X.heap.size ∧ X.cell? ⟨g, i * 2, none⟩ = some (.string (S (V i).num)) ∧ X.cell? ⟨g, i * 2 + 1, none⟩ = some (.string (S ((V i).den : Int)))) := fun X h => ⟨h.1, Row.cell_at h _ u0, Row.cell_at h _ u1⟩
      obtain ⟨svg, cvg0, cvg1⟩ := Fvg _ rvg
      go_wp2_with fail
      have dh_sp := rh.1
      have dvg_sp := rvg.1
      have d0_sp := hB.size
      refine wp_region_late 14 [12] [.val (.pointer (some ⟨ph, 0, none⟩)), .val (.agg #[.string (S r.num), .string (S (r.den : Int))]), .val (.slice (some ⟨gx, ox, none⟩) nc cc), .val (.int .i64 (i : Int)), .val (.pointer (some ⟨gx, ox + i, none⟩)), .val (.int .i64 y0), .val (.int .i64 kc), .val (.int .i64 (kc - 4)), .val (.agg #[.string (S q.num), .string (S (q.den : Int))]), .val (.tuple #[.agg #[.string (S sq.num), .string (S (sq.den : Int))], .int .i64 0]), .val (.tuple #[.agg #[.string (S sq.num), .string (S (sq.den : Int))], .int .i64 0]), .val (.agg #[.string (S sq.num), .string (S (sq.den : Int))]), .val (.int .i64 0), .say (fresh _ (.cells #[.string ⟨#[]⟩, .string ⟨#[]⟩] 26))] [16] (by kernel_rfl) (by kernel_rfl) (by kernel_rfl) rfl ⟨fresh_mono _ _, trivial⟩ (allItems.cons qi0 (allItems.cons (qi1 fun X h => Fh X (Row.below rh h)) (allItems.cons qi0 (allItems.cons qi0 (allItems.cons (qif hiI) (allItems.cons (qi1 fun X h => ((hB.trans (h.mono hB.size)).cell (p := ⟨gx, _, none⟩) hgx).trans cx0) (allItems.cons (qi2 fun X h => KC X) (allItems.cons (qif hw1) (allItems.cons (qi2 fun X h => MO X (he.below (hB.trans (h.mono hB.size)))) (allItems.cons (qi2 fun X h => MM X (he.below (hB.trans (h.mono hB.size)))) (allItems.cons qi0 (allItems.cons qi0 (allItems.cons qi0 (allItems.cons qia trivial)))))))))))))) ?_
      rintro W h1
      clear sh ch0 ch1 ch2 fh0 fh1 fh2
      clear svg cvg0 cvg1
      replace hB := hB.trans (h1.mono hB.size)
      replace rh := Row.below rh h1
      replace rvg := Row.below rvg h1
      clear h1
      obtain ⟨sh, ch0, ch1, ch2, fh0, fh1, fh2⟩ := Fh _ rh
      obtain ⟨svg, cvg0, cvg1⟩ := Fvg _ rvg
      simp only [setItems, List.setIfInBounds_toArray, List.set_cons_succ, List.set_cons_zero, List.take_succ_cons, List.take_zero, List.drop_succ_cons, List.drop_zero]
      rintro _ ⟨psp, rfl, hsp, rsp⟩
      replace dh_sp := Nat.lt_of_lt_of_le dh_sp hsp
      replace dvg_sp := Nat.lt_of_lt_of_le dvg_sp hsp
      replace d0_sp := Nat.le_trans d0_sp hsp
      have Fsp : ∀ X, Row X psp (.cells #[.string ⟨#[]⟩, .string ⟨#[]⟩] 26) → (psp < X.heap.size ∧ X.cell? ⟨psp, 0, none⟩ = some (.string ⟨#[]⟩) ∧ X.cell? ⟨psp, 1, none⟩ = some (.string ⟨#[]⟩) ∧ X.frozen? ⟨psp, 0, none⟩ = false ∧ X.frozen? ⟨psp, 1, none⟩ = false) := fun X h => ⟨h.1, Row.cell_at h 0 rfl, Row.cell_at h 1 rfl, frozen_of_row _ _ 0 _ _ h.2, frozen_of_row _ _ 1 _ _ h.2⟩
      obtain ⟨ssp, csp0, csp1, fsp0, fsp1⟩ := Fsp _ rsp
      intro _
      go_wp2_with fail
      unfold normalQ
      go_wp2_with fail
      have sB := hB.size
      refine wp_cut (fun X => Below w.heap.size w X ∧ Row X ph (.cells #[.string (S r.num), .string (S (r.den : Int)), .slice none 0 0] 49) ∧ Row X g (.cells cur 26) ∧ Row X psp (.cells #[.string (S sq.num), .string (S (sq.den : Int))] 26)) ⟨BW, RWk, RWk, RWk⟩ ?_
      clear rh
      clear sh ch0 ch1 ch2 fh0 fh1 fh2
      clear rvg
      clear svg cvg0 cvg1
      clear rsp
      clear ssp csp0 csp1 fsp0 fsp1
      clear hB sB
      rintro V7 ⟨hB, rh, rvg, rsp⟩
      obtain ⟨sh, ch0, ch1, ch2, fh0, fh1, fh2⟩ := Fh _ rh
      obtain ⟨svg, cvg0, cvg1⟩ := Fvg _ rvg
      clear Fsp
      have Fsp : ∀ X, Row X psp (.cells #[.string (S sq.num), .string (S (sq.den : Int))] 26) → (psp < X.heap.size ∧ X.cell? ⟨psp, 0, none⟩ = some (.string (S sq.num)) ∧ X.cell? ⟨psp, 1, none⟩ = some (.string (S (sq.den : Int))) ∧ X.frozen? ⟨psp, 0, none⟩ = false ∧ X.frozen? ⟨psp, 1, none⟩ = false) := fun X h => ⟨h.1, Row.cell_at h 0 rfl, Row.cell_at h 1 rfl, frozen_of_row _ _ 0 _ _ h.2, frozen_of_row _ _ 1 _ _ h.2⟩
      obtain ⟨ssp, csp0, csp1, fsp0, fsp1⟩ := Fsp _ rsp
      have dh_nx := rh.1
      have dvg_nx := rvg.1
      have dsp_nx := rsp.1
      have d0_nx := hB.size
      refine wp_region_late 10 [8] [.val (.slice (some ⟨g, 0, none⟩) (i + 1) cap), .val (.int .i64 (i : Int)), .val (.pointer (some ⟨g, i * 2, none⟩)), .val (.agg #[.string (S (V i).num), .string (S ((V i).den : Int))]), .val (.agg #[.string (S sq.num), .string (S (sq.den : Int))]), .val (.tuple #[.agg #[.string (S (V (i + 1)).num), .string (S ((V (i + 1)).den : Int))], .int .i64 0]), .val (.tuple #[.agg #[.string (S (V (i + 1)).num), .string (S ((V (i + 1)).den : Int))], .int .i64 0]), .val (.agg #[.string (S (V (i + 1)).num), .string (S ((V (i + 1)).den : Int))]), .val (.int .i64 0), .say (fresh _ (.cells #[.string ⟨#[]⟩, .string ⟨#[]⟩] 26))] [18] (by kernel_rfl) (by kernel_rfl) (by kernel_rfl) rfl ⟨fresh_mono _ _, trivial⟩ (allItems.cons qi0 (allItems.cons qi0 (allItems.cons (qif hi1) (allItems.cons (qi1 fun X h => Fvg X (Row.below rvg h)) (allItems.cons (qi1 fun X h => Fsp X (Row.below rsp h)) (allItems.cons (qi2 fun X h => MA X (he.below (hB.trans (h.mono hB.size)))) (allItems.cons qi0 (allItems.cons qi0 (allItems.cons qi0 (allItems.cons qia trivial)))))))))) ?_
      rintro W h1
      clear sh ch0 ch1 ch2 fh0 fh1 fh2
      clear svg cvg0 cvg1
      clear ssp csp0 csp1 fsp0 fsp1
      replace hB := hB.trans (h1.mono hB.size)
      replace rh := Row.below rh h1
      replace rvg := Row.below rvg h1
      replace rsp := Row.below rsp h1
      clear h1
      obtain ⟨sh, ch0, ch1, ch2, fh0, fh1, fh2⟩ := Fh _ rh
      obtain ⟨svg, cvg0, cvg1⟩ := Fvg _ rvg
      obtain ⟨ssp, csp0, csp1, fsp0, fsp1⟩ := Fsp _ rsp
      simp only [setItems, List.setIfInBounds_toArray, List.set_cons_succ, List.set_cons_zero, List.take_succ_cons, List.take_zero, List.drop_succ_cons, List.drop_zero]
      rintro _ ⟨pnx, rfl, hnx, rnx⟩
      replace dh_nx := Nat.lt_of_lt_of_le dh_nx hnx
      replace dvg_nx := Nat.lt_of_lt_of_le dvg_nx hnx
      replace dsp_nx := Nat.lt_of_lt_of_le dsp_nx hnx
      replace d0_nx := Nat.le_trans d0_nx hnx
      have Fnx : ∀ X, Row X pnx (.cells #[.string ⟨#[]⟩, .string ⟨#[]⟩] 26) → (pnx < X.heap.size ∧ X.cell? ⟨pnx, 0, none⟩ = some (.string ⟨#[]⟩) ∧ X.cell? ⟨pnx, 1, none⟩ = some (.string ⟨#[]⟩) ∧ X.frozen? ⟨pnx, 0, none⟩ = false ∧ X.frozen? ⟨pnx, 1, none⟩ = false) := fun X h => ⟨h.1, Row.cell_at h 0 rfl, Row.cell_at h 1 rfl, frozen_of_row _ _ 0 _ _ h.2, frozen_of_row _ _ 1 _ _ h.2⟩
      obtain ⟨snx, cnx0, cnx1, fnx0, fnx1⟩ := Fnx _ rnx
      intro _
      go_wp2_with fail
      unfold normalQ
      go_upto_region 12 with fail
      have sB := hB.size
      refine wp_cut (fun X => Below w.heap.size w X ∧ Row X ph (.cells #[.string (S r.num), .string (S (r.den : Int)), .slice none 0 0] 49) ∧ Row X g (.cells cur 26) ∧ Row X psp (.cells #[.string (S sq.num), .string (S (sq.den : Int))] 26) ∧ Row X pnx (.cells #[.string (S (V (i + 1)).num), .string (S ((V (i + 1)).den : Int))] 26)) ⟨BW, RWk, RWk, RWk, RWk⟩ ?_
      clear rh
      clear sh ch0 ch1 ch2 fh0 fh1 fh2
      clear rvg
      clear svg cvg0 cvg1
      clear rsp
      clear ssp csp0 csp1 fsp0 fsp1
      clear rnx
      clear snx cnx0 cnx1 fnx0 fnx1
      clear hB sB
      rintro V8 ⟨hB, rh, rvg, rsp, rnx⟩
      obtain ⟨sh, ch0, ch1, ch2, fh0, fh1, fh2⟩ := Fh _ rh
      obtain ⟨svg, cvg0, cvg1⟩ := Fvg _ rvg
      obtain ⟨ssp, csp0, csp1, fsp0, fsp1⟩ := Fsp _ rsp
      clear Fnx
      have Fnx : ∀ X, Row X pnx (.cells #[.string (S (V (i + 1)).num), .string (S ((V (i + 1)).den : Int))] 26) → (pnx < X.heap.size ∧ X.cell? ⟨pnx, 0, none⟩ = some (.string (S (V (i + 1)).num)) ∧ X.cell? ⟨pnx, 1, none⟩ = some (.string (S ((V (i + 1)).den : Int))) ∧ X.frozen? ⟨pnx, 0, none⟩ = false ∧ X.frozen? ⟨pnx, 1, none⟩ = false) := fun X h => ⟨h.1, Row.cell_at h 0 rfl, Row.cell_at h 1 rfl, frozen_of_row _ _ 0 _ _ h.2, frozen_of_row _ _ 1 _ _ h.2⟩
      obtain ⟨snx, cnx0, cnx1, fnx0, fnx1⟩ := Fnx _ rnx
      have hown := HOWN _ rvg
      go_wp2_with (at_builtin; refine wpList_append_reads _ rfl (.tmp 83) (.tmp 85) 45 rfl w.heap.size 26 i0 (.agg #[.string ⟨#[]⟩, .string ⟨#[]⟩]) 2 32 Tryz.underlying45 hi0 hz0 hz1 hz2 rfl (by decide) (.slice (some ⟨g, 0, none⟩) (i + 1) cap) (i + 1) (rCells V (i + 1)) rfl (hown.alloc _) (V8.heap.size + 1) (some ⟨V8.heap.size, 0, none⟩) 1 1 [.string (S (V (i + 1)).num), .string (S ((V (i + 1)).den : Int))] rfl (reads_two _ _ _ _) (by intro u hu; simp at hu; rcases hu with rfl | rfl <;> rfl) (by unfold maxLen; omega) (by omega) (by have := hB.size; simp; omega) ?_; intro v' W9 hown' hgrow'; replace rh := row_append (hown.alloc _) hgrow' (rh.alloc _) NHR; replace hB := Below.grown (hB.alloc (by omega) _) hgrow' (by have := hB.size; first | omega | (simp; omega)) (fun k hk => by have := (World.ownsRow.lt hown k hk).1; omega); clear hown rvg rnx; (try clear sh ch0 ch1 ch2 fh0 fh1 fh2 svg cvg0 cvg1 ssp csp0 csp1 fsp0 fsp1 snx cnx0 cnx1 fnx0 fnx1))
      go_roundw
      case rel => exact ⟨i + 1, by go_num, by omega, by omega, hown', hB, rh⟩
      case measure => simp [intOf]; omega
    · have hN0 : 0 < i + 1 := Nat.succ_pos _
      have hN1 : i + 1 ≤ 61 := by omega
      clear HOWN
      have hii : i = min nc 60 := by omega
      have HII := Lib.hid hii
      clear hii hge
      obtain ⟨sh, ch0, ch1, ch2, fh0, fh1, fh2⟩ := Fh _ rh
      have Fvg : ∀ X, Row X g (.cells cur 26) → (g < X.heap.size) := fun X h => h.1
      have svg := Fvg _ rvg
      go_upto_region 6 with fail
      go_cut [52] (fun s52 W => s52 = .bool false ∧ Below w.heap.size w W ∧ Row W ph (.cells #[.string (S r.num), .string (S (r.den : Int)), .slice none 0 0] 49) ∧ Row W g (.cells cur 26))
      case first =>
        rcases Nat.lt_or_ge i nc with hin2 | hin2
        · have hi1 : (i : Int) < (nc : Int) := by omega
          have hi2 : ¬ ((i : Int) < 60) := by have := HII.out; omega
          go_wp2
          go_meet
          case rel => exact ⟨rfl, BW, RWk, RWk⟩
        · have hi1 : ¬ ((i : Int) < (nc : Int)) := by omega
          go_wp2
          go_meet
          case rel => exact ⟨rfl, BW, RWk, RWk⟩
      case rest =>
        clear hB rh rvg
        clear sh ch0 ch1 ch2 fh0 fh1 fh2
        clear svg
        obtain ⟨rfl, hB, rh, rvg⟩ := hcut
        have sB := hB.size
        clear sB
        obtain ⟨sh, ch0, ch1, ch2, fh0, fh1, fh2⟩ := Fh _ rh
        have svg := Fvg _ rvg
        generalize i + 1 = N at *
        have TO := fun j hj => true_ok HM.out.1 (HM.out.2.mono (by omega)) fp hN0 hN1 (fun i hi => HDV.out i (by omega)) (fun i k _ _ => HSL.out i k) j hj
        have HTO := Lib.hid TO
        clear TO
        go_wp2_with fail
        clear sh ch0 ch1 ch2 fh0 fh1 fh2
        clear svg
        go_loopw [20] (fun v20 wr => ∃ (j c : Nat) (p : Option Addr), v20 = .int .i64 (j : Int) ∧ j ≤ np ∧ j ≤ 8 ∧ PAt wr p (trueL fp V N j) ∧ Below w.heap.size w wr ∧ Row wr (ph) (.cells #[.string (S r.num), .string (S (r.den : Int)), .slice p j c] 49) ∧ Row wr g (.cells cur 26)) (fun v20 _ => (9 - intOf v20).toNat)
        case atStart => exact ⟨0, 0, none, rfl, Nat.zero_le _, Nat.zero_le _, .inl ⟨rfl, .inl rfl⟩, hB, rh, rvg⟩
        case round =>
          clear hB rh rvg
          obtain ⟨j, c, p, rfl, hjn, hj8, hp, hB, rh, rvg⟩ := hrel
          rcases Nat.lt_or_ge j (min np 8) with hlt | hge
          · have h1 : j < np := by omega
            have h2 : j < 8 := by omega
            have hjI : (j : Int) < (np : Int) := by omega
            have hj8I : (j : Int) < 8 := by omega
            obtain ⟨gy, oy, rfl, hgy, hcy⟩ : ∃ g o, pp = some ⟨g, o, none⟩ ∧ g < w.heap.size ∧ ∀ i j, i < np → j < 3 → w.cell? ⟨g, o + i * 3 + j, none⟩ = some (.int .i64 (fp i j)) := HPP.out.resolve_left (by omega)
            obtain ⟨y0, e0⟩ : ∃ y, y = fp j 0 := ⟨_, rfl⟩
            obtain ⟨y1, e1⟩ : ∃ y, y = fp j 1 := ⟨_, rfl⟩
            obtain ⟨y2, e2⟩ : ∃ y, y = fp j 2 := ⟨_, rfl⟩
            have cb0 : w.cell? ⟨gy, oy + j * 3, none⟩ = some (.int .i64 y0) := by rw [e0]; exact hcy j 0 h1 (by decide)
            have cb1 : w.cell? ⟨gy, oy + j * 3 + 1, none⟩ = some (.int .i64 y1) := by rw [e1]; exact hcy j 1 h1 (by decide)
            have cb2 : w.cell? ⟨gy, oy + j * 3 + 2, none⟩ = some (.int .i64 y2) := by rw [e2]; exact hcy j 2 h1 (by decide)
            have cx0 : wr.cell? ⟨gy, oy + j * 3, none⟩ = some (.int .i64 y0) := (hB.cell (p := ⟨gy, _, none⟩) hgy).trans cb0
            have I0 : IsInt y0 := e0 ▸ hfp j 0 h1 (by decide)
            have I1 : IsInt y1 := e1 ▸ hfp j 1 h1 (by decide)
            have I2 : IsInt y2 := e2 ▸ hfp j 2 h1 (by decide)
            have K0 := fun W => pickL12 y0 (N : Int) I0 (by omega) W
            have K1 := fun W => pickL12 y1 9 I1 (by decide) W
            have K2 := fun W => pickL12 y2 9 I2 (by decide) W
            have b1 := pk_nonneg y1 (n := 9) (by decide)
            have b2 := pk_lt y1 (n := 9) (by decide)
            have c1 := pk_nonneg y2 (n := 9) (by decide)
            have c2 := pk_lt y2 (n := 9) (by decide)
            have a1 := pk_nonneg y0 (n := (N : Int)) (by omega)
            obtain ⟨q, hq⟩ : ∃ q, q = truePt fp V N j := ⟨_, rfl⟩
            have oq := truePt_ok fp hN0 (fun i hi => HDV.out i (by omega)) hN1 j
            rw [← hq] at oq
            have e7 : pk y0 (N : Int) = (q.t : Int) := by rw [hq, e0]; rw [e0] at a1; show pk (fp j 0) N = (((pk (fp j 0) N).toNat : Nat) : Int); omega
            rw [e7] at K0
            have e8 : V q.t - Rat.divInt (pk y1 9) 5 = q.iv.lo := by rw [hq, e1]; rfl
            have e9 : V q.t + Rat.divInt (pk y2 9) 5 = q.iv.hi := by rw [hq, e2]; rfl
            have MB := fun W (H : Env W) => lof (n := pk y1 9) (d := 5) ⟨by omega, by omega⟩ (by decide) (by decide) W H
            have MC := fun W (H : Env W) => lof (n := pk y2 9) (d := 5) ⟨by omega, by omega⟩ (by decide) (by decide) W H
            have db : QDig 1 (Rat.divInt (pk y1 9) 5) := QDig.ofInt (by decide) (by unfold Dig; omega) (by unfold Dig; omega)
            have dc : QDig 1 (Rat.divInt (pk y2 9) 5) := QDig.ofInt (by decide) (by unfold Dig; omega) (by unfold Dig; omega)
            have MU := fun W (H : Env W) => qsub (j := 5) (k := 1) (HDV.out q.t (by have := oq.1; omega)) db (by omega) W H
            have MA := fun W (H : Env W) => qadd (j := 5) (k := 1) (HDV.out q.t (by have := oq.1; omega)) dc (by omega) W H
            rw [e8] at MU
            rw [e9] at MA
            unfold QOk at MU MA
            unfold Q at *
            have MD := fun W p c (hp : PAt W p (trueL fp V N j)) (H : Env W) => dadd_n (l' := trueL fp V N (j + 1)) (a := q) (by rw [hq]; rfl) (HTO.out (j + 1) (by omega)).2 (HTO.out j (by omega)).1.ok (HTO.out (j + 1) (by omega)).1.ok p j c (HTO.out j (by omega)).2 W hp H
            have hqt : q.t < N := oq.1
            obtain ⟨u0, u1⟩ := own_vals rvg HX.out hqt
            have hqI : (q.t : Int) < (N : Int) := by omega
            generalize Rat.divInt (pk y1 9) 5 = qb at *
            generalize Rat.divInt (pk y2 9) 5 = qc at *
            generalize pk y1 9 = kb at *
            generalize pk y2 9 = kc at *
            have hN0I : (0 : Int) < (N : Int) := by omega
            clear a1 b1 b2 c1 c2 e0 e1 e2 e7 e8 e9 I0 I1 I2 hcy db dc hq oq
            have Fh : ∀ X, Row X ph (.cells #[.string (S r.num), .string (S (r.den : Int)), .slice p j c] 49) → (ph < X.heap.size ∧ X.cell? ⟨ph, 0, none⟩ = some (.string (S r.num)) ∧ X.cell? ⟨ph, 1, none⟩ = some (.string (S (r.den : Int))) ∧ X.cell? ⟨ph, 2, none⟩ = some (.slice p j c) ∧ X.frozen? ⟨ph, 0, none⟩ = false ∧ X.frozen? ⟨ph, 1, none⟩ = false ∧ X.frozen? ⟨ph, 2, none⟩ = false) := fun X h => ⟨h.1, Row.cell_at h 0 rfl, Row.cell_at h 1 rfl, Row.cell_at h 2 rfl, frozen_of_row _ _ 0 _ _ h.2, frozen_of_row _ _ 1 _ _ h.2, frozen_of_row _ _ 2 _ _ h.2⟩
            obtain ⟨sh, ch0, ch1, ch2, fh0, fh1, fh2⟩ := Fh _ rh
            have Fvg : ∀ X, Row X g (.cells cur 26) → (g < X.heap.size ∧ X.cell? ⟨g, q.t * 2, none⟩ = some (.string (S (V q.t).num)) ∧ X.cell? ⟨g, q.t * 2 + 1, none⟩ = some (.string (S ((V q.t).den : Int)))) := fun X h => ⟨h.1, Row.cell_at h _ u0, Row.cell_at h _ u1⟩
            obtain ⟨svg, cvg0, cvg1⟩ := Fvg _ rvg
            go_wp2_with fail
            refine (K0 _).mono ?_
            rintro e W8 ⟨rfl, h1⟩
            clear sh ch0 ch1 ch2 fh0 fh1 fh2
            clear svg cvg0 cvg1
            replace hB := hB.trans (h1.mono hB.size)
            replace rh := Row.below rh h1
            replace rvg := Row.below rvg h1
            replace hp := PAt.below hp h1
            clear h1
            obtain ⟨sh, ch0, ch1, ch2, fh0, fh1, fh2⟩ := Fh _ rh
            obtain ⟨svg, cvg0, cvg1⟩ := Fvg _ rvg
            go_wp2_with fail
            have dh_lo := rh.1
            have dvg_lo := rvg.1
            have d0_lo := hB.size
            refine wp_region_late 16 [14] [.val (.slice (some ⟨g, 0, none⟩) N cap), .val (.int .i64 (q.t : Int)), .val (.pointer (some ⟨g, q.t * 2, none⟩)), .val (.agg #[.string (S (V q.t).num), .string (S ((V q.t).den : Int))]), .val (.slice (some ⟨gy, oy, none⟩) np cp), .val (.int .i64 (j : Int)), .val (.pointer (some ⟨gy, oy + j * 3, none⟩)), .val (.pointer (some ⟨gy, oy + j * 3 + 1, none⟩)), .val (.int .i64 y1), .val (.int .i64 kb), .val (.agg #[.string (S qb.num), .string (S (qb.den : Int))]), .val (.tuple #[.agg #[.string (S q.iv.lo.num), .string (S (q.iv.lo.den : Int))], .int .i64 0]), .val (.tuple #[.agg #[.string (S q.iv.lo.num), .string (S (q.iv.lo.den : Int))], .int .i64 0]), .val (.agg #[.string (S q.iv.lo.num), .string (S (q.iv.lo.den : Int))]), .val (.int .i64 0), .say (fresh _ (.cells #[.string ⟨#[]⟩, .string ⟨#[]⟩] 26))] [22] (by kernel_rfl) (by kernel_rfl) (by kernel_rfl) rfl ⟨fresh_mono _ _, trivial⟩ (allItems.cons qi0 (allItems.cons qi0 (allItems.cons (qif hqI) (allItems.cons (qi1 fun X h => Fvg X (Row.below rvg h)) (allItems.cons qi0 (allItems.cons qi0 (allItems.cons (qif hjI) (allItems.cons qi0 (allItems.cons (qi1 fun X h => ((hB.trans (h.mono hB.size)).cell (p := ⟨gy, _, none⟩) hgy).trans cb1) (allItems.cons (qi2 fun X h => K1 X) (allItems.cons (qi2 fun X h => MB X (he.below (hB.trans (h.mono hB.size)))) (allItems.cons (qi2 fun X h => MU X (he.below (hB.trans (h.mono hB.size)))) (allItems.cons qi0 (allItems.cons qi0 (allItems.cons qi0 (allItems.cons qia trivial)))))))))))))))) ?_
            rintro W h1
            clear sh ch0 ch1 ch2 fh0 fh1 fh2
            clear svg cvg0 cvg1
            replace hB := hB.trans (h1.mono hB.size)
            replace rh := Row.below rh h1
            replace rvg := Row.below rvg h1
            replace hp := PAt.below hp h1
            clear h1
            obtain ⟨sh, ch0, ch1, ch2, fh0, fh1, fh2⟩ := Fh _ rh
            obtain ⟨svg, cvg0, cvg1⟩ := Fvg _ rvg
            simp only [setItems, List.setIfInBounds_toArray, List.set_cons_succ, List.set_cons_zero, List.take_succ_cons, List.take_zero, List.drop_succ_cons, List.drop_zero]
            rintro _ ⟨plo, rfl, hlo, rlo⟩
            replace dh_lo := Nat.lt_of_lt_of_le dh_lo hlo
            replace dvg_lo := Nat.lt_of_lt_of_le dvg_lo hlo
            replace d0_lo := Nat.le_trans d0_lo hlo
            have Flo : ∀ X, Row X plo (.cells #[.string ⟨#[]⟩, .string ⟨#[]⟩] 26) → (plo < X.heap.size ∧ X.cell? ⟨plo, 0, none⟩ = some (.string ⟨#[]⟩) ∧ X.cell? ⟨plo, 1, none⟩ = some (.string ⟨#[]⟩) ∧ X.frozen? ⟨plo, 0, none⟩ = false ∧ X.frozen? ⟨plo, 1, none⟩ = false) := fun X h => ⟨h.1, Row.cell_at h 0 rfl, Row.cell_at h 1 rfl, frozen_of_row _ _ 0 _ _ h.2, frozen_of_row _ _ 1 _ _ h.2⟩
            obtain ⟨slo, clo0, clo1, flo0, flo1⟩ := Flo _ rlo
            intro _
            go_wp2_with fail
            unfold normalQ
            go_wp2_with fail
            have sB := hB.size
            refine wp_cut (fun X => Below w.heap.size w X ∧ Row X ph (.cells #[.string (S r.num), .string (S (r.den : Int)), .slice p j c] 49) ∧ Row X g (.cells cur 26) ∧ Row X plo (.cells #[.string (S q.iv.lo.num), .string (S (q.iv.lo.den : Int))] 26) ∧ PAt X p (trueL fp V N j)) ⟨BW, RWk, RWk, RWk, (by first | with_reducible exact pat_set3 hp rh NEH | with_reducible exact pat_set2 hp rlo NER | with_reducible exact pat_set2 hp rhi NER | exact PAt.below hp BW)⟩ ?_
            clear rh
            clear sh ch0 ch1 ch2 fh0 fh1 fh2
            clear rvg
            clear svg cvg0 cvg1
            clear rlo
            clear slo clo0 clo1 flo0 flo1
            clear hB sB hp
            rintro V9 ⟨hB, rh, rvg, rlo, hp⟩
            obtain ⟨sh, ch0, ch1, ch2, fh0, fh1, fh2⟩ := Fh _ rh
            obtain ⟨svg, cvg0, cvg1⟩ := Fvg _ rvg
            clear Flo
            have Flo : ∀ X, Row X plo (.cells #[.string (S q.iv.lo.num), .string (S (q.iv.lo.den : Int))] 26) → (plo < X.heap.size ∧ X.cell? ⟨plo, 0, none⟩ = some (.string (S q.iv.lo.num)) ∧ X.cell? ⟨plo, 1, none⟩ = some (.string (S (q.iv.lo.den : Int))) ∧ X.frozen? ⟨plo, 0, none⟩ = false ∧ X.frozen? ⟨plo, 1, none⟩ = false) := fun X h => ⟨h.1, Row.cell_at h 0 rfl, Row.cell_at h 1 rfl, frozen_of_row _ _ 0 _ _ h.2, frozen_of_row _ _ 1 _ _ h.2⟩
            obtain ⟨slo, clo0, clo1, flo0, flo1⟩ := Flo _ rlo
            have dh_hi := rh.1
            have dvg_hi := rvg.1
            have dlo_hi := rlo.1
            have d0_hi := hB.size
            refine wp_region_late 16 [14] [.val (.slice (some ⟨g, 0, none⟩) N cap), .val (.int .i64 (q.t : Int)), .val (.pointer (some ⟨g, q.t * 2, none⟩)), .val (.agg #[.string (S (V q.t).num), .string (S ((V q.t).den : Int))]), .val (.slice (some ⟨gy, oy, none⟩) np cp), .val (.int .i64 (j : Int)), .val (.pointer (some ⟨gy, oy + j * 3, none⟩)), .val (.pointer (some ⟨gy, oy + j * 3 + 2, none⟩)), .val (.int .i64 y2), .val (.int .i64 kc), .val (.agg #[.string (S qc.num), .string (S (qc.den : Int))]), .val (.tuple #[.agg #[.string (S q.iv.hi.num), .string (S (q.iv.hi.den : Int))], .int .i64 0]), .val (.tuple #[.agg #[.string (S q.iv.hi.num), .string (S (q.iv.hi.den : Int))], .int .i64 0]), .val (.agg #[.string (S q.iv.hi.num), .string (S (q.iv.hi.den : Int))]), .val (.int .i64 0), .say (fresh _ (.cells #[.string ⟨#[]⟩, .string ⟨#[]⟩] 26))] [24] (by kernel_rfl) (by kernel_rfl) (by kernel_rfl) rfl ⟨fresh_mono _ _, trivial⟩ (allItems.cons qi0 (allItems.cons qi0 (allItems.cons (qif hqI) (allItems.cons (qi1 fun X h => Fvg X (Row.below rvg h)) (allItems.cons qi0 (allItems.cons qi0 (allItems.cons (qif hjI) (allItems.cons qi0 (allItems.cons (qi1 fun X h => ((hB.trans (h.mono hB.size)).cell (p := ⟨gy, _, none⟩) hgy).trans cb2) (allItems.cons (qi2 fun X h => K2 X) (allItems.cons (qi2 fun X h => MC X (he.below (hB.trans (h.mono hB.size)))) (allItems.cons (qi2 fun X h => MA X (he.below (hB.trans (h.mono hB.size)))) (allItems.cons qi0 (allItems.cons qi0 (allItems.cons qi0 (allItems.cons qia trivial)))))))))))))))) ?_
            rintro W h1
            clear sh ch0 ch1 ch2 fh0 fh1 fh2
            clear svg cvg0 cvg1
            clear slo clo0 clo1 flo0 flo1
            replace hB := hB.trans (h1.mono hB.size)
            replace rh := Row.below rh h1
            replace rvg := Row.below rvg h1
            replace rlo := Row.below rlo h1
            replace hp := PAt.below hp h1
            clear h1
            obtain ⟨sh, ch0, ch1, ch2, fh0, fh1, fh2⟩ := Fh _ rh
            obtain ⟨svg, cvg0, cvg1⟩ := Fvg _ rvg
            obtain ⟨slo, clo0, clo1, flo0, flo1⟩ := Flo _ rlo
            simp only [setItems, List.setIfInBounds_toArray, List.set_cons_succ, List.set_cons_zero, List.take_succ_cons, List.take_zero, List.drop_succ_cons, List.drop_zero]
            rintro _ ⟨phi, rfl, hhi, rhi⟩
            replace dh_hi := Nat.lt_of_lt_of_le dh_hi hhi
            replace dvg_hi := Nat.lt_of_lt_of_le dvg_hi hhi
            replace dlo_hi := Nat.lt_of_lt_of_le dlo_hi hhi
            replace d0_hi := Nat.le_trans d0_hi hhi
            have Fhi : ∀ X, Row X phi (.cells #[.string ⟨#[]⟩, .string ⟨#[]⟩] 26) → (phi < X.heap.size ∧ X.cell? ⟨phi, 0, none⟩ = some (.string ⟨#[]⟩) ∧ X.cell? ⟨phi, 1, none⟩ = some (.string ⟨#[]⟩) ∧ X.frozen? ⟨phi, 0, none⟩ = false ∧ X.frozen? ⟨phi, 1, none⟩ = false) := fun X h => ⟨h.1, Row.cell_at h 0 rfl, Row.cell_at h 1 rfl, frozen_of_row _ _ 0 _ _ h.2, frozen_of_row _ _ 1 _ _ h.2⟩
            obtain ⟨shi, chi0, chi1, fhi0, fhi1⟩ := Fhi _ rhi
            intro _
            go_wp2_with fail
            unfold normalQ
            go_wp2_with fail
            have sB := hB.size
            refine world_cut (fun X => Below w.heap.size w X ∧ Row X ph (.cells #[.string (S r.num), .string (S (r.den : Int)), .slice p j c] 49) ∧ Row X g (.cells cur 26) ∧ Row X plo (.cells #[.string (S q.iv.lo.num), .string (S (q.iv.lo.den : Int))] 26) ∧ Row X phi (.cells #[.string (S q.iv.hi.num), .string (S (q.iv.hi.den : Int))] 26) ∧ PAt X p (trueL fp V N j)) ⟨BW, RWk, RWk, RWk, RWk, (by first | with_reducible exact pat_set3 hp rh NEH | with_reducible exact pat_set2 hp rlo NER | with_reducible exact pat_set2 hp rhi NER | exact PAt.below hp BW)⟩ ?_
            clear rh
            clear sh ch0 ch1 ch2 fh0 fh1 fh2
            clear rvg
            clear svg cvg0 cvg1
            clear rlo
            clear slo clo0 clo1 flo0 flo1
            clear rhi
            clear shi chi0 chi1 fhi0 fhi1
            clear hB sB hp
            rintro V10 ⟨hB, rh, rvg, rlo, rhi, hp⟩
            obtain ⟨sh, ch0, ch1, ch2, fh0, fh1, fh2⟩ := Fh _ rh
            obtain ⟨svg, cvg0, cvg1⟩ := Fvg _ rvg
            obtain ⟨slo, clo0, clo1, flo0, flo1⟩ := Flo _ rlo
            clear Fhi
            have Fhi : ∀ X, Row X phi (.cells #[.string (S q.iv.hi.num), .string (S (q.iv.hi.den : Int))] 26) → (phi < X.heap.size ∧ X.cell? ⟨phi, 0, none⟩ = some (.string (S q.iv.hi.num)) ∧ X.cell? ⟨phi, 1, none⟩ = some (.string (S (q.iv.hi.den : Int))) ∧ X.frozen? ⟨phi, 0, none⟩ = false ∧ X.frozen? ⟨phi, 1, none⟩ = false) := fun X h => ⟨h.1, Row.cell_at h 0 rfl, Row.cell_at h 1 rfl, frozen_of_row _ _ 0 _ _ h.2, frozen_of_row _ _ 1 _ _ h.2⟩
            obtain ⟨shi, chi0, chi1, fhi0, fhi1⟩ := Fhi _ rhi
            refine (MD _ _ _ hp (he.below hB)).mono ?_
            rintro e W11 ⟨p1, c1, hp1, rfl, h1⟩
            clear sh ch0 ch1 ch2 fh0 fh1 fh2
            clear svg cvg0 cvg1
            clear slo clo0 clo1 flo0 flo1
            clear shi chi0 chi1 fhi0 fhi1
            replace hB := hB.trans (h1.mono hB.size)
            replace rh := Row.below rh h1
            replace rvg := Row.below rvg h1
            replace rlo := Row.below rlo h1
            replace rhi := Row.below rhi h1
            replace hp := PAt.below hp h1
            clear h1
            obtain ⟨sh, ch0, ch1, ch2, fh0, fh1, fh2⟩ := Fh _ rh
            obtain ⟨svg, cvg0, cvg1⟩ := Fvg _ rvg
            obtain ⟨slo, clo0, clo1, flo0, flo1⟩ := Flo _ rlo
            obtain ⟨shi, chi0, chi1, fhi0, fhi1⟩ := Fhi _ rhi
            clear hp
            go_upto_region 24 with fail
            have dh_ne : ph < W11.heap.size := by omega
            have dlo_ne : plo < W11.heap.size := by omega
            have dhi_ne : phi < W11.heap.size := by omega
            have sB := hB.size
            refine wp_cut (fun X => Below w.heap.size w X ∧ Row X ph (.cells #[.string (S r.num), .string (S (r.den : Int)), .slice p j c] 49) ∧ Row X g (.cells cur 26) ∧ Row X plo (.cells #[.string (S q.iv.lo.num), .string (S (q.iv.lo.den : Int))] 26) ∧ Row X phi (.cells #[.string (S q.iv.hi.num), .string (S (q.iv.hi.den : Int))] 26) ∧ Row X W11.heap.size (.cells #[.string (S r.num), .string (S (r.den : Int)), .slice p1 (j + 1) c1] 49) ∧ PAt X p1 (trueL fp V N (j + 1))) ⟨BW, RWk, RWk, RWk, RWk, RWk, (by first | exact PAt.below hp1 BW)⟩ ?_
            clear rh
            clear sh ch0 ch1 ch2 fh0 fh1 fh2
            clear rvg
            clear svg cvg0 cvg1
            clear rlo
            clear slo clo0 clo1 flo0 flo1
            clear rhi
            clear shi chi0 chi1 fhi0 fhi1
            clear hB sB hp1
            rintro V12 ⟨hB, rh, rvg, rlo, rhi, rne, hp1⟩
            obtain ⟨sh, ch0, ch1, ch2, fh0, fh1, fh2⟩ := Fh _ rh
            obtain ⟨svg, cvg0, cvg1⟩ := Fvg _ rvg
            obtain ⟨slo, clo0, clo1, flo0, flo1⟩ := Flo _ rlo
            obtain ⟨shi, chi0, chi1, fhi0, fhi1⟩ := Fhi _ rhi
            have Fne : ∀ X, Row X W11.heap.size (.cells #[.string (S r.num), .string (S (r.den : Int)), .slice p1 (j + 1) c1] 49) → (W11.heap.size < X.heap.size ∧ X.cell? ⟨W11.heap.size, 0, none⟩ = some (.string (S r.num)) ∧ X.cell? ⟨W11.heap.size, 1, none⟩ = some (.string (S (r.den : Int))) ∧ X.cell? ⟨W11.heap.size, 2, none⟩ = some (.slice p1 (j + 1) c1)) := fun X h => ⟨h.1, Row.cell_at h 0 rfl, Row.cell_at h 1 rfl, Row.cell_at h 2 rfl⟩
            obtain ⟨sne, cne0, cne1, cne2⟩ := Fne _ rne
            go_wp2
            go_roundw
            case rel => exact ⟨j + 1, c1, p1, by go_num, by omega, by omega, pat_set3 hp1 rh NEH, BW, RWk, row_set3_ne rvg rh NHR⟩
            case measure => simp [intOf]; omega
          · have hjj : j = min np 8 := by omega
            have HJJ := Lib.hid hjj
            clear hjj hge
            have Fh : ∀ X, Row X ph (.cells #[.string (S r.num), .string (S (r.den : Int)), .slice p j c] 49) → (ph < X.heap.size ∧ X.cell? ⟨ph, 0, none⟩ = some (.string (S r.num)) ∧ X.cell? ⟨ph, 1, none⟩ = some (.string (S (r.den : Int))) ∧ X.cell? ⟨ph, 2, none⟩ = some (.slice p j c) ∧ X.frozen? ⟨ph, 0, none⟩ = false ∧ X.frozen? ⟨ph, 1, none⟩ = false ∧ X.frozen? ⟨ph, 2, none⟩ = false) := fun X h => ⟨h.1, Row.cell_at h 0 rfl, Row.cell_at h 1 rfl, Row.cell_at h 2 rfl, frozen_of_row _ _ 0 _ _ h.2, frozen_of_row _ _ 1 _ _ h.2, frozen_of_row _ _ 2 _ _ h.2⟩
            obtain ⟨sh, ch0, ch1, ch2, fh0, fh1, fh2⟩ := Fh _ rh
            have Fvg : ∀ X, Row X g (.cells cur 26) → (g < X.heap.size) := fun X h => h.1
            have svg := Fvg _ rvg
            go_upto_region 14 with fail
            go_cut [94] (fun s94 W => s94 = .bool false ∧ Below w.heap.size w W ∧ Row W ph (.cells #[.string (S r.num), .string (S (r.den : Int)), .slice p j c] 49) ∧ Row W g (.cells cur 26) ∧ PAt W p (trueL fp V N j))
            case first =>
              rcases Nat.lt_or_ge j np with hin2 | hin2
              · have hi1 : (j : Int) < (np : Int) := by omega
                have hi2 : ¬ ((j : Int) < 8) := by have := HJJ.out; omega
                go_wp2
                go_meet
                case rel => exact ⟨rfl, BW, RWk, RWk, (by first | with_reducible exact pat_set3 hp rh NEH | with_reducible exact pat_set2 hp rlo NER | with_reducible exact pat_set2 hp rhi NER | exact PAt.below hp BW)⟩
              · have hi1 : ¬ ((j : Int) < (np : Int)) := by omega
                go_wp2
                go_meet
                case rel => exact ⟨rfl, BW, RWk, RWk, (by first | with_reducible exact pat_set3 hp rh NEH | with_reducible exact pat_set2 hp rlo NER | with_reducible exact pat_set2 hp rhi NER | exact PAt.below hp BW)⟩
            case rest =>
              clear hB rh rvg hp
              clear sh ch0 ch1 ch2 fh0 fh1 fh2
              clear svg
              obtain ⟨rfl, hB, rh, rvg, hp⟩ := hcut
              have sB := hB.size
              clear sB
              obtain ⟨sh, ch0, ch1, ch2, fh0, fh1, fh2⟩ := Fh _ rh
              have svg := Fvg _ rvg
              obtain ⟨HT, hlen⟩ := HTO.out j hj8
              have KT := fun W => pickL12 ti (N : Int) hti (by omega) W
              have t1 := pk_nonneg ti (n := (N : Int)) (by omega)
              have t2 := pk_lt ti (n := (N : Int)) (by omega)
              obtain ⟨t, ht⟩ : ∃ t : Nat, pk ti (N : Int) = (t : Int) := ⟨(pk ti (N : Int)).toNat, by omega⟩
              rw [ht] at KT
              have htN : t < N := by omega
              have ht6 : t ≤ 1000000 := by omega
              have htI : (t : Int) < (N : Int) := by omega
              clear t1 t2 ht
              generalize hl : trueL fp V N j = l at *
              have HLN := Lib.hid hlen
              clear hl hlen
              go_wp2_with fail
              refine (KT _).mono ?_
              rintro e W9 ⟨rfl, h1⟩
              clear sh ch0 ch1 ch2 fh0 fh1 fh2
              clear svg
              replace hB := hB.trans (h1.mono hB.size)
              replace rh := Row.below rh h1
              replace rvg := Row.below rvg h1
              replace hp := PAt.below hp h1
              clear h1
              obtain ⟨sh, ch0, ch1, ch2, fh0, fh1, fh2⟩ := Fh _ rh
              have svg := Fvg _ rvg
              by_cases hj : j = 0
              · have DA := fun W p c (hp : PAt W p l) (H : Env W) => dat_off HT.ok (t := t) ht6 p j c HLN.out (fun h => absurd h.1 (by omega)) W hp H
                unfold AtErr at DA
                subst hj
                have Fh : ∀ X, Row X ph (.cells #[.string (S r.num), .string (S (r.den : Int)), .slice p 0 c] 49) → (ph < X.heap.size ∧ X.cell? ⟨ph, 0, none⟩ = some (.string (S r.num)) ∧ X.cell? ⟨ph, 1, none⟩ = some (.string (S (r.den : Int))) ∧ X.cell? ⟨ph, 2, none⟩ = some (.slice p 0 c) ∧ X.frozen? ⟨ph, 0, none⟩ = false ∧ X.frozen? ⟨ph, 1, none⟩ = false ∧ X.frozen? ⟨ph, 2, none⟩ = false) := fun X h => ⟨h.1, Row.cell_at h 0 rfl, Row.cell_at h 1 rfl, Row.cell_at h 2 rfl, frozen_of_row _ _ 0 _ _ h.2, frozen_of_row _ _ 1 _ _ h.2, frozen_of_row _ _ 2 _ _ h.2⟩
                obtain ⟨sh, ch0, ch1, ch2, fh0, fh1, fh2⟩ := Fh _ rh
                go_wp2_with fail
                refine (DA _ _ _ hp (he.below hB)).mono ?_
                rintro e W10 ⟨rfl, h1⟩
                clear sh ch0 ch1 ch2 fh0 fh1 fh2
                clear svg
                replace hB := hB.trans (h1.mono hB.size)
                replace rh := Row.below rh h1
                replace rvg := Row.below rvg h1
                replace hp := PAt.below hp h1
                clear h1
                obtain ⟨sh, ch0, ch1, ch2, fh0, fh1, fh2⟩ := Fh _ rh
                have svg := Fvg _ rvg
                go_wp2
                go_ret
                exact ⟨rfl, BW⟩
              · have hj0 : 0 < j := by omega
                have HJZ := Lib.hid hj
                clear hj
                have hne : l ≠ [] := by intro h; have := HLN.out; rw [h] at this; simp at this; omega
                have hfr : Free ⟨r, l⟩ := HT.honest.free
                obtain ⟨o, ko⟩ := exists_knows ⟨r, l⟩ t hne
                have DA := fun W p c (hp : PAt W p l) (H : Env W) => dat_known HT.ok hfr ko ht6 p j c HLN.out hj0 W hp H
                have hhas := HT.honest.has htN ko
                have dO : IDig 200 o := (Knows.dig (j := 7) (k := 2) ko HM.out.2 HT.ivs ht6 HT.ok.times).mono (by omega)
                have ME := fun W (H : Env W) => econtains o (V t) dO ((HDV.out t (by omega)).mono (by omega)) W H
                rw [decide_eq_true (show o.lo ≤ V t ∧ V t ≤ o.hi from hhas)] at ME
                unfold BoolOk I at ME
                unfold Q at *
                have hcn : (cons ⟨r, l⟩).length = 0 := by rw [(cons_nil HT.ok).2 hfr]; rfl
                have MC := fun W p c (hp : PAt W p l) (H : Env W) => dcons_say hcn HT.ok p j c HLN.out W hp H
                clear hcn hhas dO
                obtain ⟨u0, u1⟩ := own_vals rvg HX.out htN
                obtain ⟨sh, ch0, ch1, ch2, fh0, fh1, fh2⟩ := Fh _ rh
                have Fvg : ∀ X, Row X g (.cells cur 26) → (g < X.heap.size ∧ X.cell? ⟨g, t * 2, none⟩ = some (.string (S (V t).num)) ∧ X.cell? ⟨g, t * 2 + 1, none⟩ = some (.string (S ((V t).den : Int)))) := fun X h => ⟨h.1, Row.cell_at h _ u0, Row.cell_at h _ u1⟩
                obtain ⟨svg, cvg0, cvg1⟩ := Fvg _ rvg
                go_wp2_with fail
                refine (DA _ _ _ hp (he.below hB)).mono ?_
                rintro e W10 ⟨rfl, h1⟩
                clear sh ch0 ch1 ch2 fh0 fh1 fh2
                clear svg cvg0 cvg1
                replace hB := hB.trans (h1.mono hB.size)
                replace rh := Row.below rh h1
                replace rvg := Row.below rvg h1
                replace hp := PAt.below hp h1
                clear h1
                obtain ⟨sh, ch0, ch1, ch2, fh0, fh1, fh2⟩ := Fh _ rh
                obtain ⟨svg, cvg0, cvg1⟩ := Fvg _ rvg
                go_upto_region 27 with fail
                have dh_x : ph < W10.heap.size := by omega
                have sB := hB.size
                refine wp_cut (fun X => Below w.heap.size w X ∧ Row X ph (.cells #[.string (S r.num), .string (S (r.den : Int)), .slice p j c] 49) ∧ Row X g (.cells cur 26) ∧ Row X W10.heap.size (.cells #[.string (S o.lo.num), .string (S (o.lo.den : Int)), .string (S o.hi.num), .string (S (o.hi.den : Int))] 29) ∧ PAt X p l) ⟨BW, RWk, RWk, RWk, (by first | exact PAt.below hp BW)⟩ ?_
                clear rh
                clear sh ch0 ch1 ch2 fh0 fh1 fh2
                clear rvg
                clear svg cvg0 cvg1
                clear hB sB hp
                rintro V11 ⟨hB, rh, rvg, rx, hp⟩
                obtain ⟨sh, ch0, ch1, ch2, fh0, fh1, fh2⟩ := Fh _ rh
                obtain ⟨svg, cvg0, cvg1⟩ := Fvg _ rvg
                have Fx : ∀ X, Row X W10.heap.size (.cells #[.string (S o.lo.num), .string (S (o.lo.den : Int)), .string (S o.hi.num), .string (S (o.hi.den : Int))] 29) → (W10.heap.size < X.heap.size ∧ X.cell? ⟨W10.heap.size, 0, none⟩ = some (.string (S o.lo.num)) ∧ X.cell? ⟨W10.heap.size, 1, none⟩ = some (.string (S (o.lo.den : Int))) ∧ X.cell? ⟨W10.heap.size, 2, none⟩ = some (.string (S o.hi.num)) ∧ X.cell? ⟨W10.heap.size, 3, none⟩ = some (.string (S (o.hi.den : Int)))) := fun X h => ⟨h.1, Row.cell_at h 0 rfl, Row.cell_at h 1 rfl, Row.cell_at h 2 rfl, Row.cell_at h 3 rfl⟩
                obtain ⟨sx, cx0, cx1, cx2, cx3⟩ := Fx _ rx
                refine wp_region_vals_seq [.pointer (some ⟨ph, 2, none⟩), .slice p j c, .int .i64 (j : Int), .bool false] (by kernel_rfl) rfl (allVals.cons qv0 (allVals.cons (qv1 fun X h => Fh X (Row.below rh h)) (allVals.cons qv0 (allVals.cons (qvf HJZ.out) trivial)))) ?_
                rintro W h1
                clear sh ch0 ch1 ch2 fh0 fh1 fh2
                clear svg cvg0 cvg1
                clear sx cx0 cx1 cx2 cx3
                replace hB := hB.trans (h1.mono hB.size)
                replace rh := Row.below rh h1
                replace rvg := Row.below rvg h1
                replace rx := Row.below rx h1
                replace hp := PAt.below hp h1
                clear h1
                obtain ⟨sh, ch0, ch1, ch2, fh0, fh1, fh2⟩ := Fh _ rh
                obtain ⟨svg, cvg0, cvg1⟩ := Fvg _ rvg
                obtain ⟨sx, cx0, cx1, cx2, cx3⟩ := Fx _ rx
                simp only [setVals, List.setIfInBounds_toArray, List.set_cons_succ, List.set_cons_zero]
                go_wp2_with fail
                refine wp_region_items 19 [.val (.bool true), .val (.bool true), .val (.int .i64 0), .val (.bool true), .val (.bool true), .val (.bool true), .val (.agg #[.string (S o.lo.num), .string (S (o.lo.den : Int)), .string (S o.hi.num), .string (S (o.hi.den : Int))]), .val (.slice (some ⟨g, 0, none⟩) N cap), .val (.int .i64 (t : Int)), .val (.pointer (some ⟨g, t * 2, none⟩)), .val (.agg #[.string (S (V t).num), .string (S ((V t).den : Int))]), .val (.bool true), .val (.bool true), .val (.bool true), .val (.agg #[.string (S r.num), .string (S (r.den : Int)), .slice p j c]), .say (SaySl 0), .val (.int .i64 0), .val (.bool true), .val (.bool true)] (by kernel_rfl) (by kernel_rfl) ⟨SaySl.mono _, trivial⟩ (allItems.cons qi0 (allItems.cons qi0 (allItems.cons qi0 (allItems.cons qi0 (allItems.cons qi0 (allItems.cons qi0 (allItems.cons (qi1 fun X h => Fx X (Row.below rx h)) (allItems.cons qi0 (allItems.cons qi0 (allItems.cons (qif htI) (allItems.cons (qi1 fun X h => Fvg X (Row.below rvg h)) (allItems.cons (qi2 fun X h => ME X (he.below (hB.trans (h.mono hB.size)))) (allItems.cons qi0 (allItems.cons qi0 (allItems.cons (qi1 fun X h => Fh X (Row.below rh h)) (allItems.cons (qi3 fun X h => MC X _ _ (PAt.below hp h) (he.below (hB.trans (h.mono hB.size)))) (allItems.cons (qId (by intro ρ X qX qc qg qf qt qd; simp [depsSay, itemSp, QItem.sp, Region.binds] at qd; obtain ⟨⟨p, c, e⟩, e2⟩ := qd; simp [Region.wanted, yieldedBy, quietly, QItem.sp, execOp, go_sem, foreign, qc, qt, qf, Below.refl, e, e2])) (allItems.cons qi0 (allItems.cons qi0 trivial))))))))))))))))))) ?_
                rintro W h1
                clear sh ch0 ch1 ch2 fh0 fh1 fh2
                clear svg cvg0 cvg1
                clear sx cx0 cx1 cx2 cx3
                replace hB := hB.trans (h1.mono hB.size)
                replace rh := Row.below rh h1
                replace rvg := Row.below rvg h1
                replace rx := Row.below rx h1
                replace hp := PAt.below hp h1
                clear h1
                obtain ⟨sh, ch0, ch1, ch2, fh0, fh1, fh2⟩ := Fh _ rh
                obtain ⟨svg, cvg0, cvg1⟩ := Fvg _ rvg
                obtain ⟨sx, cx0, cx1, cx2, cx3⟩ := Fx _ rx
                simp only [setItems, List.setIfInBounds_toArray, List.set_cons_succ, List.set_cons_zero, List.take_succ_cons, List.take_zero, List.drop_succ_cons, List.drop_zero]
                rintro _ ⟨p5, c5, rfl⟩
                go_wp2
                go_ret
                exact ⟨rfl, BW⟩
end Go.Proofs.YtngohpgkceedeaaGreatDoor
