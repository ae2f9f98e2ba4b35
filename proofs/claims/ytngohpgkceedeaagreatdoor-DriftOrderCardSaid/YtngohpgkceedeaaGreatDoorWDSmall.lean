/-
  The small functions of drift: fractions of two machine integers, short fractions, how far a value gets, gaps.
-/
import Derived.Test.YtngohpgkceedeaaGreatDoorWFromInt
import Derived.Test.YtngohpgkceedeaaGreatDoorWQSum
import Derived.Test.YtngohpgkceedeaaGreatDoorWTail
set_option linter.unusedSimpArgs false
set_option linter.unusedVariables false
namespace Go.Proofs.YtngohpgkceedeaaGreatDoor
open Go Go.RowKit Go.Lib Go.Shelf

theorem fromIntS' {n : Int} (h : IsInt n) (w : World) (he : Env w) : Calls Tryz.prog 152 #[.int .i64 n] w (FromOk n w) := fromInt_any n h.1 h.2 w he.tab
theorem qdig_of {n d : Int} {k : Nat} (h : 0 < d) (hn : n.natAbs < 10 ^ k) (hd : d.natAbs < 10 ^ k) : QDig k (Rat.divInt n d) := QDig.ofInt h hn hd
theorem isInt_fits {n : Int} (h : IsInt n) : Fits n := by
  unfold Fits
  have h1 : n.natAbs < 10 ^ 19 := by have := h.1; have := h.2; omega
  exact Nat.lt_of_lt_of_le h1 (Nat.pow_le_pow_right (by decide) (by decide))
set_option maxRecDepth 100000 in
set_option maxHeartbeats 16000000 in
theorem qof {n d : Int} (hn : IsInt n) (hd : IsInt d) (hd0 : 0 < d) (w : World) (he : Env w) : Calls Tryz.prog 99 #[.int .i64 n, .int .i64 d] w (QOk (Rat.divInt n d) w) := by
  have hB : Below w.heap.size w w := Below.refl _ _
  have MN := fun W (h : Env W) => fromIntS' hn W h
  have MD := fun W (h : Env W) => fromIntS' hd W h
  have MK := fun W (h : Env W) => qmake (is_S n) (is_S d) (isInt_fits hn) (isInt_fits hd) (by omega) W h
  unfold FromOk at MN MD
  unfold QOk Q at MK
  unfold QOk Q
  generalize Rat.divInt n d = q at *
  generalize S n = sn at *
  generalize S d = sd at *
  clear hd0
  go_enter Tryz.func99, Tryz.ntmps99
  go_wp2_with fail
  have d0_o : w.heap.size ≤ w.heap.size := by have := hB.size; omega
  have sB := hB.size
  refine world_cut (fun X => Below w.heap.size w X ∧ Row X w.heap.size (.cells #[.string ⟨#[]⟩, .string ⟨#[]⟩] 26)) ⟨BW, RW⟩ ?_
  clear hB sB
  rintro V1 ⟨hB, ro⟩
  have Fo : ∀ X, Row X w.heap.size (.cells #[.string ⟨#[]⟩, .string ⟨#[]⟩] 26) → (w.heap.size < X.heap.size ∧ X.cell? ⟨w.heap.size, 0, none⟩ = some (.string ⟨#[]⟩) ∧ X.cell? ⟨w.heap.size, 1, none⟩ = some (.string ⟨#[]⟩) ∧ X.frozen? ⟨w.heap.size, 0, none⟩ = false ∧ X.frozen? ⟨w.heap.size, 1, none⟩ = false) := fun X h => ⟨h.1, Row.cell_at h 0 rfl, Row.cell_at h 1 rfl, frozen_of_row _ _ 0 _ _ h.2, frozen_of_row _ _ 1 _ _ h.2⟩
  obtain ⟨so, co0, co1, fo0, fo1⟩ := Fo _ ro
  refine (MN _ (he.below hB)).mono ?_
  rintro e W2 ⟨rfl, h1⟩
  clear so co0 co1 fo0 fo1
  replace hB := hB.trans (h1.mono hB.size)
  replace ro := Row.below ro h1
  clear h1
  obtain ⟨so, co0, co1, fo0, fo1⟩ := Fo _ ro
  go_wp2_with fail
  refine (MD _ (he.below hB)).mono ?_
  rintro e W3 ⟨rfl, h1⟩
  clear so co0 co1 fo0 fo1
  replace hB := hB.trans (h1.mono hB.size)
  replace ro := Row.below ro h1
  clear h1
  obtain ⟨so, co0, co1, fo0, fo1⟩ := Fo _ ro
  go_wp2_with fail
  refine (MK _ (he.below hB)).mono ?_
  rintro e W4 ⟨rfl, h1⟩
  clear so co0 co1 fo0 fo1
  replace hB := hB.trans (h1.mono hB.size)
  replace ro := Row.below ro h1
  clear h1
  obtain ⟨so, co0, co1, fo0, fo1⟩ := Fo _ ro
  go_wp2_with fail
  have sB := hB.size
  refine post_cut (fun X => Below w.heap.size w X ∧ Row X w.heap.size (.cells #[.string (S q.num), .string (S (q.den : Int))] 26)) ⟨BW, RW⟩ ?_
  clear ro
  clear so co0 co1 fo0 fo1
  clear hB sB
  rintro V5 ⟨hB, ro⟩
  clear Fo
  have Fo : ∀ X, Row X w.heap.size (.cells #[.string (S q.num), .string (S (q.den : Int))] 26) → (w.heap.size < X.heap.size ∧ X.cell? ⟨w.heap.size, 0, none⟩ = some (.string (S q.num)) ∧ X.cell? ⟨w.heap.size, 1, none⟩ = some (.string (S (q.den : Int))) ∧ X.frozen? ⟨w.heap.size, 0, none⟩ = false ∧ X.frozen? ⟨w.heap.size, 1, none⟩ = false) := fun X h => ⟨h.1, Row.cell_at h 0 rfl, Row.cell_at h 1 rfl, frozen_of_row _ _ 0 _ _ h.2, frozen_of_row _ _ 1 _ _ h.2⟩
  obtain ⟨so, co0, co1, fo0, fo1⟩ := Fo _ ro
  refine bodyPost_ret (v := .tuple #[.agg #[.string (S q.num), .string (S (q.den : Int))], .int .i64 0]) ?res rfl ⟨rfl, hB⟩
  case res => simp [results, Tryz.results99, go_sem, co0, co1]
theorem trimS (z : Int) (w : World) : Calls Tryz.prog 151 #[.string (S z), .string { data := #[45] }] w fun e w' => e = .returned (.string ⟨(body (S z).data.toList).toArray⟩) ∧ Below w.heap.size w w' :=
  (trim_minus _ w).mono fun e w' ⟨h1, h2⟩ => ⟨h1, h2 ▸ Below.refl _ _⟩
theorem body_size {z : Int} (h : Dig 40 z) : (⟨(body (S z).data.toList).toArray⟩ : ByteArray).size ≤ 40 := by
  have h1 : (⟨(body (S z).data.toList).toArray⟩ : ByteArray).size = (body (S z).data.toList).length := by simp [ByteArray.size]
  have h2 : (S z).data.toList = itoa z := is_S z
  rw [h1, h2, body_itoa]
  exact (dec_lt _ 40 (by decide)).2 h
theorem den_size {q : Rat} (h : Dig 40 (q.den : Int)) : (S (q.den : Int)).size ≤ 40 := by
  have h1 : (S (q.den : Int)).size = (itoa (q.den : Int)).length := by unfold S ByteArray.size; simp
  rw [h1, itoa_nn]
  exact (dec_lt _ 40 (by decide)).2 (by unfold Dig at h; rwa [Int.natAbs_natCast] at h)
set_option maxRecDepth 100000 in
set_option maxHeartbeats 16000000 in
theorem dshort {q : Rat} (hq : QDig 40 q) (w : World) (he : Env w) : Calls Tryz.prog 95 #[Q q] w (BoolOk true w) := by
  have hB : Below w.heap.size w w := Below.refl _ _
  have MV := fun W (h : Env W) => qvalid q (hq.mono (by omega)) W h
  unfold BoolOk Q at MV
  have MT := fun W => trimS q.num W
  have b1 := body_size hq.1
  have b2 := den_size hq.2
  unfold BoolOk Q
  generalize (⟨(body (S q.num).data.toList).toArray⟩ : ByteArray) = tn at *
  generalize S q.num = sn at *
  generalize S (q.den : Int) = sd at *
  clear hq
  have e1 : decide ((tn.size : Int) ≤ 40) = true := decide_eq_true (by omega)
  have e2 : decide ((sd.size : Int) ≤ 40) = true := decide_eq_true (by omega)
  clear b1 b2
  go_enter Tryz.func95, Tryz.ntmps95
  go_wp2_with fail
  have sB := hB.size
  refine world_cut (fun X => Below w.heap.size w X ∧ Row X w.heap.size (.cells #[.string sn, .string sd] 26)) ⟨BW, RW⟩ ?_
  clear hB sB
  rintro V1 ⟨hB, rr⟩
  have Fr : ∀ X, Row X w.heap.size (.cells #[.string sn, .string sd] 26) → (w.heap.size < X.heap.size ∧ X.cell? ⟨w.heap.size, 0, none⟩ = some (.string sn) ∧ X.cell? ⟨w.heap.size, 1, none⟩ = some (.string sd)) := fun X h => ⟨h.1, Row.cell_at h 0 rfl, Row.cell_at h 1 rfl⟩
  obtain ⟨sr, cr0, cr1⟩ := Fr _ rr
  refine (MV _ (he.below hB)).mono ?_
  rintro e W2 ⟨rfl, h1⟩
  clear sr cr0 cr1
  replace hB := hB.trans (h1.mono hB.size)
  replace rr := Row.below rr h1
  clear h1
  obtain ⟨sr, cr0, cr1⟩ := Fr _ rr
  go_wp2_with fail
  refine (MT _).mono ?_
  rintro e W3 ⟨rfl, h1⟩
  clear sr cr0 cr1
  replace hB := hB.trans (h1.mono hB.size)
  replace rr := Row.below rr h1
  clear h1
  obtain ⟨sr, cr0, cr1⟩ := Fr _ rr
  go_wp2
  go_ret
  exact ⟨rfl, hB⟩
set_option maxRecDepth 100000 in
set_option maxHeartbeats 16000000 in
theorem dreach {r : Rat} {t k : Nat} (hr : QDig k r) (ht : t ≤ 1000000) (hk : k + 7 ≤ 200) (w : World) (he : Env w) : Calls Tryz.prog 81 #[Q r, .int .i64 (t : Int)] w (QOk (far r t) w) := by
  have hB : Below w.heap.size w w := Below.refl _ _
  have MO := fun W (h : Env W) => qof (n := (t : Int)) (d := 1) ⟨by omega, by omega⟩ ⟨by omega, by omega⟩ (by omega) W h
  have dt : QDig 7 (Rat.divInt (t : Int) 1) := qdig_of (by omega) (by omega) (by omega)
  have MM := fun W (h : Env W) => qmul hr dt (by omega) W h
  rw [far_divInt] at MM
  unfold QOk Q
  unfold QOk Q at MO MM
  generalize far r t = f at *
  generalize Rat.divInt (t : Int) 1 = u at *
  clear hr ht hk dt
  go_enter Tryz.func81, Tryz.ntmps81
  go_wp2_with fail
  have d0_o : w.heap.size ≤ w.heap.size + 1 := by have := hB.size; omega
  have sB := hB.size
  refine world_cut (fun X => Below w.heap.size w X ∧ Row X w.heap.size (.cells #[.string (S r.num), .string (S (r.den : Int))] 26) ∧ Row X (w.heap.size + 1) (.cells #[.string ⟨#[]⟩, .string ⟨#[]⟩] 26)) ⟨BW, RW, RW⟩ ?_
  clear hB sB
  rintro V1 ⟨hB, rr, ro⟩
  have Fr : ∀ X, Row X w.heap.size (.cells #[.string (S r.num), .string (S (r.den : Int))] 26) → (w.heap.size < X.heap.size ∧ X.cell? ⟨w.heap.size, 0, none⟩ = some (.string (S r.num)) ∧ X.cell? ⟨w.heap.size, 1, none⟩ = some (.string (S (r.den : Int)))) := fun X h => ⟨h.1, Row.cell_at h 0 rfl, Row.cell_at h 1 rfl⟩
  obtain ⟨sr, cr0, cr1⟩ := Fr _ rr
  have Fo : ∀ X, Row X (w.heap.size + 1) (.cells #[.string ⟨#[]⟩, .string ⟨#[]⟩] 26) → (w.heap.size + 1 < X.heap.size ∧ X.cell? ⟨w.heap.size + 1, 0, none⟩ = some (.string ⟨#[]⟩) ∧ X.cell? ⟨w.heap.size + 1, 1, none⟩ = some (.string ⟨#[]⟩) ∧ X.frozen? ⟨w.heap.size + 1, 0, none⟩ = false ∧ X.frozen? ⟨w.heap.size + 1, 1, none⟩ = false) := fun X h => ⟨h.1, Row.cell_at h 0 rfl, Row.cell_at h 1 rfl, frozen_of_row _ _ 0 _ _ h.2, frozen_of_row _ _ 1 _ _ h.2⟩
  obtain ⟨so, co0, co1, fo0, fo1⟩ := Fo _ ro
  refine (MO _ (he.below hB)).mono ?_
  rintro e W2 ⟨rfl, h1⟩
  clear sr cr0 cr1
  clear so co0 co1 fo0 fo1
  replace hB := hB.trans (h1.mono hB.size)
  replace rr := Row.below rr h1
  replace ro := Row.below ro h1
  clear h1
  obtain ⟨sr, cr0, cr1⟩ := Fr _ rr
  obtain ⟨so, co0, co1, fo0, fo1⟩ := Fo _ ro
  go_wp2_with fail
  clear Fr
  have sB := hB.size
  refine world_cut (fun X => Below w.heap.size w X ∧ Row X (w.heap.size + 1) (.cells #[.string ⟨#[]⟩, .string ⟨#[]⟩] 26)) ⟨BW, RW⟩ ?_
  clear rr
  clear sr cr0 cr1
  clear ro
  clear so co0 co1 fo0 fo1
  clear hB sB
  rintro V3 ⟨hB, ro⟩
  obtain ⟨so, co0, co1, fo0, fo1⟩ := Fo _ ro
  refine (MM _ (he.below hB)).mono ?_
  rintro e W4 ⟨rfl, h1⟩
  clear so co0 co1 fo0 fo1
  replace hB := hB.trans (h1.mono hB.size)
  replace ro := Row.below ro h1
  clear h1
  obtain ⟨so, co0, co1, fo0, fo1⟩ := Fo _ ro
  go_wp2_with fail
  have sB := hB.size
  refine post_cut (fun X => Below w.heap.size w X ∧ Row X (w.heap.size + 1) (.cells #[.string (S f.num), .string (S (f.den : Int))] 26)) ⟨BW, RW⟩ ?_
  clear ro
  clear so co0 co1 fo0 fo1
  clear hB sB
  rintro V5 ⟨hB, ro⟩
  clear Fo
  have Fo : ∀ X, Row X (w.heap.size + 1) (.cells #[.string (S f.num), .string (S (f.den : Int))] 26) → (w.heap.size + 1 < X.heap.size ∧ X.cell? ⟨w.heap.size + 1, 0, none⟩ = some (.string (S f.num)) ∧ X.cell? ⟨w.heap.size + 1, 1, none⟩ = some (.string (S (f.den : Int))) ∧ X.frozen? ⟨w.heap.size + 1, 0, none⟩ = false ∧ X.frozen? ⟨w.heap.size + 1, 1, none⟩ = false) := fun X h => ⟨h.1, Row.cell_at h 0 rfl, Row.cell_at h 1 rfl, frozen_of_row _ _ 0 _ _ h.2, frozen_of_row _ _ 1 _ _ h.2⟩
  obtain ⟨so, co0, co1, fo0, fo1⟩ := Fo _ ro
  refine bodyPost_ret (v := .tuple #[.agg #[.string (S f.num), .string (S (f.den : Int))], .int .i64 0]) ?res rfl ⟨rfl, hB⟩
  case res => simp [results, Tryz.results81, go_sem, co0, co1]
set_option maxRecDepth 100000 in
set_option maxHeartbeats 16000000 in
theorem dfar1 {x f : Rat} (hx : QDig 200 x) (hf : QDig 200 f) (b : Nat) (w : World) (he : Env w) (hrow : Row w b (.cells #[.string (S f.num), .string (S (f.den : Int))] 26)) : Calls Tryz.prog 144 #[Q x, .pointer (some ⟨b, 0, none⟩)] w (BoolOk (decide (0 < cmpQ x f)) w) := by
  have hB : Below w.heap.size w w := Below.refl _ _
  have rf := hrow
  have MC := fun W (h : Env W) => qcompare x f hx hf W h
  unfold CmpOk Q at MC
  clear hx hf
  generalize hc : cmpQ x f = c at *
  have HC := Lib.hid hc
  clear hc
  unfold Q
  go_enter Tryz.func144, Tryz.ntmps144
  have Ff : ∀ X, Row X b (.cells #[.string (S f.num), .string (S (f.den : Int))] 26) → (b < X.heap.size ∧ X.cell? ⟨b, 0, none⟩ = some (.string (S f.num)) ∧ X.cell? ⟨b, 1, none⟩ = some (.string (S (f.den : Int)))) := fun X h => ⟨h.1, Row.cell_at h 0 rfl, Row.cell_at h 1 rfl⟩
  obtain ⟨sf, cf0, cf1⟩ := Ff _ rf
  go_wp2_with fail
  clear Ff
  have sB := hB.size
  refine world_cut (fun X => Below w.heap.size w X) BW ?_
  clear rf
  clear sf cf0 cf1
  clear hB sB
  rintro V1 hB
  refine (MC _ (he.below hB)).mono ?_
  rintro e W2 ⟨rfl, h1⟩
  replace hB := hB.trans (h1.mono hB.size)
  clear h1
  go_wp2
  go_ret
  exact ⟨by rw [← HC.out]; rfl, hB⟩
def GapOk (r : Rat) (a b : Pt) (w : World) (e : Ending) (w' : World) : Prop := e = .returned (.tuple #[Q (b.iv.lo - a.iv.hi), Q (a.iv.lo - b.iv.hi), Q (far r (b.t - a.t)), .bool true]) ∧ Below w.heap.size w w'
def PV (p : Pt) : Value := .agg #[.int .i64 (p.t : Int), .string (S p.iv.lo.num), .string (S (p.iv.lo.den : Int)), .string (S p.iv.hi.num), .string (S (p.iv.hi.den : Int))]
set_option maxRecDepth 100000 in
set_option maxHeartbeats 16000000 in
theorem dgap {r : Rat} {a b : Pt} (hr : QDig 40 r) (da : IDig 40 a.iv) (db : IDig 40 b.iv) (hab : a.t ≤ b.t) (hb : b.t ≤ 1000000) (w : World) (he : Env w) : Calls Tryz.prog 143 #[Q r, PV a, PV b] w (GapOk r a b w) := by
  have hB : Below w.heap.size w w := Below.refl _ _
  have MU := fun W (h : Env W) => qsub db.1 da.2 (by omega) W h
  have MV := fun W (h : Env W) => qsub da.1 db.2 (by omega) W h
  have MR := fun W (h : Env W) => dreach (t := b.t - a.t) hr (by omega) (by omega) W h
  have hsub : (b.t : Int) - (a.t : Int) = ((b.t - a.t : Nat) : Int) := by omega
  unfold GapOk Q PV
  unfold QOk Q at MU MV MR
  generalize b.iv.lo - a.iv.hi = u at *
  generalize a.iv.lo - b.iv.hi = v at *
  generalize far r (b.t - a.t) = f at *
  have hw : IntKind.i64.wrap ((b.t : Int) - (a.t : Int)) = ((b.t - a.t : Nat) : Int) := by rw [IntKind.wrap_i64]; omega
  clear da db hr hab hsub
  go_enter Tryz.func143, Tryz.ntmps143
  go_wp2_with fail
  have d0_u : w.heap.size ≤ w.heap.size + 1 + 1 + 1 := by have := hB.size; omega
  have d0_v : w.heap.size ≤ w.heap.size + 1 + 1 + 1 + 1 := by have := hB.size; omega
  have d0_f : w.heap.size ≤ w.heap.size + 1 + 1 + 1 + 1 + 1 := by have := hB.size; omega
  have sB := hB.size
  refine world_cut (fun X => Below w.heap.size w X ∧ Row X w.heap.size (.cells #[.string (S r.num), .string (S (r.den : Int))] 26) ∧ Row X (w.heap.size + 1) (.cells #[.int .i64 (a.t : Int), .string (S a.iv.lo.num), .string (S (a.iv.lo.den : Int)), .string (S a.iv.hi.num), .string (S (a.iv.hi.den : Int))] 53) ∧ Row X (w.heap.size + 1 + 1) (.cells #[.int .i64 (b.t : Int), .string (S b.iv.lo.num), .string (S (b.iv.lo.den : Int)), .string (S b.iv.hi.num), .string (S (b.iv.hi.den : Int))] 53) ∧ Row X (w.heap.size + 1 + 1 + 1) (.cells #[.string ⟨#[]⟩, .string ⟨#[]⟩] 26) ∧ Row X (w.heap.size + 1 + 1 + 1 + 1) (.cells #[.string ⟨#[]⟩, .string ⟨#[]⟩] 26) ∧ Row X (w.heap.size + 1 + 1 + 1 + 1 + 1) (.cells #[.string ⟨#[]⟩, .string ⟨#[]⟩] 26)) ⟨BW, RW, RW, RW, RW, RW, RW⟩ ?_
  clear hB sB
  rintro V1 ⟨hB, rr, ra, rb, ru, rv, rf⟩
  have Fr : ∀ X, Row X w.heap.size (.cells #[.string (S r.num), .string (S (r.den : Int))] 26) → (w.heap.size < X.heap.size ∧ X.cell? ⟨w.heap.size, 0, none⟩ = some (.string (S r.num)) ∧ X.cell? ⟨w.heap.size, 1, none⟩ = some (.string (S (r.den : Int)))) := fun X h => ⟨h.1, Row.cell_at h 0 rfl, Row.cell_at h 1 rfl⟩
  obtain ⟨sr, cr0, cr1⟩ := Fr _ rr
  have Fa : ∀ X, Row X (w.heap.size + 1) (.cells #[.int .i64 (a.t : Int), .string (S a.iv.lo.num), .string (S (a.iv.lo.den : Int)), .string (S a.iv.hi.num), .string (S (a.iv.hi.den : Int))] 53) → (w.heap.size + 1 < X.heap.size ∧ X.cell? ⟨w.heap.size + 1, 0, none⟩ = some (.int .i64 (a.t : Int)) ∧ X.cell? ⟨w.heap.size + 1, 1, none⟩ = some (.string (S a.iv.lo.num)) ∧ X.cell? ⟨w.heap.size + 1, 2, none⟩ = some (.string (S (a.iv.lo.den : Int))) ∧ X.cell? ⟨w.heap.size + 1, 3, none⟩ = some (.string (S a.iv.hi.num)) ∧ X.cell? ⟨w.heap.size + 1, 4, none⟩ = some (.string (S (a.iv.hi.den : Int)))) := fun X h => ⟨h.1, Row.cell_at h 0 rfl, Row.cell_at h 1 rfl, Row.cell_at h 2 rfl, Row.cell_at h 3 rfl, Row.cell_at h 4 rfl⟩
  obtain ⟨sa, ca0, ca1, ca2, ca3, ca4⟩ := Fa _ ra
  have Fb : ∀ X, Row X (w.heap.size + 1 + 1) (.cells #[.int .i64 (b.t : Int), .string (S b.iv.lo.num), .string (S (b.iv.lo.den : Int)), .string (S b.iv.hi.num), .string (S (b.iv.hi.den : Int))] 53) → (w.heap.size + 1 + 1 < X.heap.size ∧ X.cell? ⟨w.heap.size + 1 + 1, 0, none⟩ = some (.int .i64 (b.t : Int)) ∧ X.cell? ⟨w.heap.size + 1 + 1, 1, none⟩ = some (.string (S b.iv.lo.num)) ∧ X.cell? ⟨w.heap.size + 1 + 1, 2, none⟩ = some (.string (S (b.iv.lo.den : Int))) ∧ X.cell? ⟨w.heap.size + 1 + 1, 3, none⟩ = some (.string (S b.iv.hi.num)) ∧ X.cell? ⟨w.heap.size + 1 + 1, 4, none⟩ = some (.string (S (b.iv.hi.den : Int)))) := fun X h => ⟨h.1, Row.cell_at h 0 rfl, Row.cell_at h 1 rfl, Row.cell_at h 2 rfl, Row.cell_at h 3 rfl, Row.cell_at h 4 rfl⟩
  obtain ⟨sb, cb0, cb1, cb2, cb3, cb4⟩ := Fb _ rb
  have Fu : ∀ X, Row X (w.heap.size + 1 + 1 + 1) (.cells #[.string ⟨#[]⟩, .string ⟨#[]⟩] 26) → (w.heap.size + 1 + 1 + 1 < X.heap.size ∧ X.cell? ⟨w.heap.size + 1 + 1 + 1, 0, none⟩ = some (.string ⟨#[]⟩) ∧ X.cell? ⟨w.heap.size + 1 + 1 + 1, 1, none⟩ = some (.string ⟨#[]⟩) ∧ X.frozen? ⟨w.heap.size + 1 + 1 + 1, 0, none⟩ = false ∧ X.frozen? ⟨w.heap.size + 1 + 1 + 1, 1, none⟩ = false) := fun X h => ⟨h.1, Row.cell_at h 0 rfl, Row.cell_at h 1 rfl, frozen_of_row _ _ 0 _ _ h.2, frozen_of_row _ _ 1 _ _ h.2⟩
  obtain ⟨su, cu0, cu1, fu0, fu1⟩ := Fu _ ru
  have Fv : ∀ X, Row X (w.heap.size + 1 + 1 + 1 + 1) (.cells #[.string ⟨#[]⟩, .string ⟨#[]⟩] 26) → (w.heap.size + 1 + 1 + 1 + 1 < X.heap.size ∧ X.cell? ⟨w.heap.size + 1 + 1 + 1 + 1, 0, none⟩ = some (.string ⟨#[]⟩) ∧ X.cell? ⟨w.heap.size + 1 + 1 + 1 + 1, 1, none⟩ = some (.string ⟨#[]⟩) ∧ X.frozen? ⟨w.heap.size + 1 + 1 + 1 + 1, 0, none⟩ = false ∧ X.frozen? ⟨w.heap.size + 1 + 1 + 1 + 1, 1, none⟩ = false) := fun X h => ⟨h.1, Row.cell_at h 0 rfl, Row.cell_at h 1 rfl, frozen_of_row _ _ 0 _ _ h.2, frozen_of_row _ _ 1 _ _ h.2⟩
  obtain ⟨sv, cv0, cv1, fv0, fv1⟩ := Fv _ rv
  have Ff : ∀ X, Row X (w.heap.size + 1 + 1 + 1 + 1 + 1) (.cells #[.string ⟨#[]⟩, .string ⟨#[]⟩] 26) → (w.heap.size + 1 + 1 + 1 + 1 + 1 < X.heap.size ∧ X.cell? ⟨w.heap.size + 1 + 1 + 1 + 1 + 1, 0, none⟩ = some (.string ⟨#[]⟩) ∧ X.cell? ⟨w.heap.size + 1 + 1 + 1 + 1 + 1, 1, none⟩ = some (.string ⟨#[]⟩) ∧ X.frozen? ⟨w.heap.size + 1 + 1 + 1 + 1 + 1, 0, none⟩ = false ∧ X.frozen? ⟨w.heap.size + 1 + 1 + 1 + 1 + 1, 1, none⟩ = false) := fun X h => ⟨h.1, Row.cell_at h 0 rfl, Row.cell_at h 1 rfl, frozen_of_row _ _ 0 _ _ h.2, frozen_of_row _ _ 1 _ _ h.2⟩
  obtain ⟨sf, cf0, cf1, ff0, ff1⟩ := Ff _ rf
  refine (MU _ (he.below hB)).mono ?_
  rintro e W2 ⟨rfl, h1⟩
  clear sr cr0 cr1
  clear sa ca0 ca1 ca2 ca3 ca4
  clear sb cb0 cb1 cb2 cb3 cb4
  clear su cu0 cu1 fu0 fu1
  clear sv cv0 cv1 fv0 fv1
  clear sf cf0 cf1 ff0 ff1
  replace hB := hB.trans (h1.mono hB.size)
  replace rr := Row.below rr h1
  replace ra := Row.below ra h1
  replace rb := Row.below rb h1
  replace ru := Row.below ru h1
  replace rv := Row.below rv h1
  replace rf := Row.below rf h1
  clear h1
  obtain ⟨sr, cr0, cr1⟩ := Fr _ rr
  obtain ⟨sa, ca0, ca1, ca2, ca3, ca4⟩ := Fa _ ra
  obtain ⟨sb, cb0, cb1, cb2, cb3, cb4⟩ := Fb _ rb
  obtain ⟨su, cu0, cu1, fu0, fu1⟩ := Fu _ ru
  obtain ⟨sv, cv0, cv1, fv0, fv1⟩ := Fv _ rv
  obtain ⟨sf, cf0, cf1, ff0, ff1⟩ := Ff _ rf
  go_wp2_with fail
  have sB := hB.size
  refine world_cut (fun X => Below w.heap.size w X ∧ Row X w.heap.size (.cells #[.string (S r.num), .string (S (r.den : Int))] 26) ∧ Row X (w.heap.size + 1) (.cells #[.int .i64 (a.t : Int), .string (S a.iv.lo.num), .string (S (a.iv.lo.den : Int)), .string (S a.iv.hi.num), .string (S (a.iv.hi.den : Int))] 53) ∧ Row X (w.heap.size + 1 + 1) (.cells #[.int .i64 (b.t : Int), .string (S b.iv.lo.num), .string (S (b.iv.lo.den : Int)), .string (S b.iv.hi.num), .string (S (b.iv.hi.den : Int))] 53) ∧ Row X (w.heap.size + 1 + 1 + 1) (.cells #[.string (S u.num), .string (S (u.den : Int))] 26) ∧ Row X (w.heap.size + 1 + 1 + 1 + 1) (.cells #[.string ⟨#[]⟩, .string ⟨#[]⟩] 26) ∧ Row X (w.heap.size + 1 + 1 + 1 + 1 + 1) (.cells #[.string ⟨#[]⟩, .string ⟨#[]⟩] 26)) ⟨BW, RW, RW, RW, RW, RW, RW⟩ ?_
  clear rr
  clear sr cr0 cr1
  clear ra
  clear sa ca0 ca1 ca2 ca3 ca4
  clear rb
  clear sb cb0 cb1 cb2 cb3 cb4
  clear ru
  clear su cu0 cu1 fu0 fu1
  clear rv
  clear sv cv0 cv1 fv0 fv1
  clear rf
  clear sf cf0 cf1 ff0 ff1
  clear hB sB
  rintro V3 ⟨hB, rr, ra, rb, ru, rv, rf⟩
  obtain ⟨sr, cr0, cr1⟩ := Fr _ rr
  obtain ⟨sa, ca0, ca1, ca2, ca3, ca4⟩ := Fa _ ra
  obtain ⟨sb, cb0, cb1, cb2, cb3, cb4⟩ := Fb _ rb
  clear Fu
  have Fu : ∀ X, Row X (w.heap.size + 1 + 1 + 1) (.cells #[.string (S u.num), .string (S (u.den : Int))] 26) → (w.heap.size + 1 + 1 + 1 < X.heap.size ∧ X.cell? ⟨w.heap.size + 1 + 1 + 1, 0, none⟩ = some (.string (S u.num)) ∧ X.cell? ⟨w.heap.size + 1 + 1 + 1, 1, none⟩ = some (.string (S (u.den : Int))) ∧ X.frozen? ⟨w.heap.size + 1 + 1 + 1, 0, none⟩ = false ∧ X.frozen? ⟨w.heap.size + 1 + 1 + 1, 1, none⟩ = false) := fun X h => ⟨h.1, Row.cell_at h 0 rfl, Row.cell_at h 1 rfl, frozen_of_row _ _ 0 _ _ h.2, frozen_of_row _ _ 1 _ _ h.2⟩
  obtain ⟨su, cu0, cu1, fu0, fu1⟩ := Fu _ ru
  obtain ⟨sv, cv0, cv1, fv0, fv1⟩ := Fv _ rv
  obtain ⟨sf, cf0, cf1, ff0, ff1⟩ := Ff _ rf
  refine (MV _ (he.below hB)).mono ?_
  rintro e W4 ⟨rfl, h1⟩
  clear sr cr0 cr1
  clear sa ca0 ca1 ca2 ca3 ca4
  clear sb cb0 cb1 cb2 cb3 cb4
  clear su cu0 cu1 fu0 fu1
  clear sv cv0 cv1 fv0 fv1
  clear sf cf0 cf1 ff0 ff1
  replace hB := hB.trans (h1.mono hB.size)
  replace rr := Row.below rr h1
  replace ra := Row.below ra h1
  replace rb := Row.below rb h1
  replace ru := Row.below ru h1
  replace rv := Row.below rv h1
  replace rf := Row.below rf h1
  clear h1
  obtain ⟨sr, cr0, cr1⟩ := Fr _ rr
  obtain ⟨sa, ca0, ca1, ca2, ca3, ca4⟩ := Fa _ ra
  obtain ⟨sb, cb0, cb1, cb2, cb3, cb4⟩ := Fb _ rb
  obtain ⟨su, cu0, cu1, fu0, fu1⟩ := Fu _ ru
  obtain ⟨sv, cv0, cv1, fv0, fv1⟩ := Fv _ rv
  obtain ⟨sf, cf0, cf1, ff0, ff1⟩ := Ff _ rf
  go_wp2_with fail
  clear Fr
  clear Fa
  clear Fb
  have sB := hB.size
  refine world_cut (fun X => Below w.heap.size w X ∧ Row X (w.heap.size + 1 + 1 + 1) (.cells #[.string (S u.num), .string (S (u.den : Int))] 26) ∧ Row X (w.heap.size + 1 + 1 + 1 + 1) (.cells #[.string (S v.num), .string (S (v.den : Int))] 26) ∧ Row X (w.heap.size + 1 + 1 + 1 + 1 + 1) (.cells #[.string ⟨#[]⟩, .string ⟨#[]⟩] 26)) ⟨BW, RW, RW, RW⟩ ?_
  clear rr
  clear sr cr0 cr1
  clear ra
  clear sa ca0 ca1 ca2 ca3 ca4
  clear rb
  clear sb cb0 cb1 cb2 cb3 cb4
  clear ru
  clear su cu0 cu1 fu0 fu1
  clear rv
  clear sv cv0 cv1 fv0 fv1
  clear rf
  clear sf cf0 cf1 ff0 ff1
  clear hB sB
  rintro V5 ⟨hB, ru, rv, rf⟩
  obtain ⟨su, cu0, cu1, fu0, fu1⟩ := Fu _ ru
  clear Fv
  have Fv : ∀ X, Row X (w.heap.size + 1 + 1 + 1 + 1) (.cells #[.string (S v.num), .string (S (v.den : Int))] 26) → (w.heap.size + 1 + 1 + 1 + 1 < X.heap.size ∧ X.cell? ⟨w.heap.size + 1 + 1 + 1 + 1, 0, none⟩ = some (.string (S v.num)) ∧ X.cell? ⟨w.heap.size + 1 + 1 + 1 + 1, 1, none⟩ = some (.string (S (v.den : Int))) ∧ X.frozen? ⟨w.heap.size + 1 + 1 + 1 + 1, 0, none⟩ = false ∧ X.frozen? ⟨w.heap.size + 1 + 1 + 1 + 1, 1, none⟩ = false) := fun X h => ⟨h.1, Row.cell_at h 0 rfl, Row.cell_at h 1 rfl, frozen_of_row _ _ 0 _ _ h.2, frozen_of_row _ _ 1 _ _ h.2⟩
  obtain ⟨sv, cv0, cv1, fv0, fv1⟩ := Fv _ rv
  obtain ⟨sf, cf0, cf1, ff0, ff1⟩ := Ff _ rf
  refine (MR _ (he.below hB)).mono ?_
  rintro e W6 ⟨rfl, h1⟩
  clear su cu0 cu1 fu0 fu1
  clear sv cv0 cv1 fv0 fv1
  clear sf cf0 cf1 ff0 ff1
  replace hB := hB.trans (h1.mono hB.size)
  replace ru := Row.below ru h1
  replace rv := Row.below rv h1
  replace rf := Row.below rf h1
  clear h1
  obtain ⟨su, cu0, cu1, fu0, fu1⟩ := Fu _ ru
  obtain ⟨sv, cv0, cv1, fv0, fv1⟩ := Fv _ rv
  obtain ⟨sf, cf0, cf1, ff0, ff1⟩ := Ff _ rf
  go_wp2_with fail
  have sB := hB.size
  refine wp_cut (fun X => Below w.heap.size w X ∧ Row X (w.heap.size + 1 + 1 + 1) (.cells #[.string (S u.num), .string (S (u.den : Int))] 26) ∧ Row X (w.heap.size + 1 + 1 + 1 + 1) (.cells #[.string (S v.num), .string (S (v.den : Int))] 26) ∧ Row X (w.heap.size + 1 + 1 + 1 + 1 + 1) (.cells #[.string (S f.num), .string (S (f.den : Int))] 26)) ⟨BW, RW, RW, RW⟩ ?_
  clear ru
  clear su cu0 cu1 fu0 fu1
  clear rv
  clear sv cv0 cv1 fv0 fv1
  clear rf
  clear sf cf0 cf1 ff0 ff1
  clear hB sB
  rintro V7 ⟨hB, ru, rv, rf⟩
  obtain ⟨su, cu0, cu1, fu0, fu1⟩ := Fu _ ru
  obtain ⟨sv, cv0, cv1, fv0, fv1⟩ := Fv _ rv
  clear Ff
  have Ff : ∀ X, Row X (w.heap.size + 1 + 1 + 1 + 1 + 1) (.cells #[.string (S f.num), .string (S (f.den : Int))] 26) → (w.heap.size + 1 + 1 + 1 + 1 + 1 < X.heap.size ∧ X.cell? ⟨w.heap.size + 1 + 1 + 1 + 1 + 1, 0, none⟩ = some (.string (S f.num)) ∧ X.cell? ⟨w.heap.size + 1 + 1 + 1 + 1 + 1, 1, none⟩ = some (.string (S (f.den : Int))) ∧ X.frozen? ⟨w.heap.size + 1 + 1 + 1 + 1 + 1, 0, none⟩ = false ∧ X.frozen? ⟨w.heap.size + 1 + 1 + 1 + 1 + 1, 1, none⟩ = false) := fun X h => ⟨h.1, Row.cell_at h 0 rfl, Row.cell_at h 1 rfl, frozen_of_row _ _ 0 _ _ h.2, frozen_of_row _ _ 1 _ _ h.2⟩
  obtain ⟨sf, cf0, cf1, ff0, ff1⟩ := Ff _ rf
  refine wp_region_vals [.agg #[.string (S u.num), .string (S (u.den : Int))], .agg #[.string (S v.num), .string (S (v.den : Int))], .agg #[.string (S f.num), .string (S (f.den : Int))], .int .i64 0, .bool true, .bool true, .int .i64 0, .bool true, .bool true, .bool true, .int .i64 0, .bool true, .bool true, undef, undef, undef, .bool true] (by kernel_rfl) (by kernel_rfl) rfl (allVals.cons (qv1 fun X h => Fu X (Row.below ru h)) (allVals.cons (qv1 fun X h => Fv X (Row.below rv h)) (allVals.cons (qv1 fun X h => Ff X (Row.below rf h)) (allVals.cons qv0 (allVals.cons qv0 (allVals.cons qv0 (allVals.cons qv0 (allVals.cons qv0 (allVals.cons qv0 (allVals.cons qv0 (allVals.cons qv0 (allVals.cons qv0 (allVals.cons qv0 (allVals.cons (qvst fun X h => Row.below ru h) (allVals.cons (qvst fun X h => Row.below rv h) (allVals.cons (qvst fun X h => Row.below rf h) (allVals.cons qv0 trivial))))))))))))))))) ?_
  rintro W h1
  clear su cu0 cu1 fu0 fu1
  clear sv cv0 cv1 fv0 fv1
  clear sf cf0 cf1 ff0 ff1
  replace hB := hB.trans (h1.mono hB.size)
  replace ru := Row.below ru h1
  replace rv := Row.below rv h1
  replace rf := Row.below rf h1
  clear h1
  obtain ⟨su, cu0, cu1, fu0, fu1⟩ := Fu _ ru
  obtain ⟨sv, cv0, cv1, fv0, fv1⟩ := Fv _ rv
  obtain ⟨sf, cf0, cf1, ff0, ff1⟩ := Ff _ rf
  simp only [setVals, List.setIfInBounds_toArray, List.set_cons_succ, List.set_cons_zero]
  go_wp2_with fail
  have sB := hB.size
  refine post_cut (fun X => Below w.heap.size w X ∧ Row X (w.heap.size + 1 + 1 + 1) (.cells #[.string (S u.num), .string (S (u.den : Int))] 26) ∧ Row X (w.heap.size + 1 + 1 + 1 + 1) (.cells #[.string (S v.num), .string (S (v.den : Int))] 26) ∧ Row X (w.heap.size + 1 + 1 + 1 + 1 + 1) (.cells #[.string (S f.num), .string (S (f.den : Int))] 26)) ⟨BW, RW, RW, RW⟩ ?_
  clear ru
  clear su cu0 cu1 fu0 fu1
  clear rv
  clear sv cv0 cv1 fv0 fv1
  clear rf
  clear sf cf0 cf1 ff0 ff1
  clear hB sB
  rintro V8 ⟨hB, ru, rv, rf⟩
  obtain ⟨su, cu0, cu1, fu0, fu1⟩ := Fu _ ru
  obtain ⟨sv, cv0, cv1, fv0, fv1⟩ := Fv _ rv
  obtain ⟨sf, cf0, cf1, ff0, ff1⟩ := Ff _ rf
  refine bodyPost_ret (v := .tuple #[.agg #[.string (S u.num), .string (S (u.den : Int))], .agg #[.string (S v.num), .string (S (v.den : Int))], .agg #[.string (S f.num), .string (S (f.den : Int))], .bool true]) ?res rfl ⟨rfl, hB⟩
  case res => simp [results, Tryz.results143, go_sem, cu0, cu1, cv0, cv1, cf0, cf1]
end Go.Proofs.YtngohpgkceedeaaGreatDoor
