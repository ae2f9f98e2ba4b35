/-
  EnclosureRoots: the walk.
-/
import Derived.Test.YtbgagplpomfkkaaGreatDoorSane5
import Derived.Test.YtbgagplpomfkkaaGreatDoorECallsFacts
import Derived.Test.YtbgagplpomfkkaaGreatDoorShort
import Derived.Deep.RegionHeld3
import Derived.Deep.RegionWith
import Derived.Deep.DeepCutAuto
set_option linter.unusedSimpArgs false
set_option linter.unusedVariables false
namespace Go.Proofs.YtbgagplpomfkkaaGreatDoor
open Go Go.RowKit Go.Lib Go.Shelf

theorem npick (c n : Int) (hc : IsInt c) (hn : 0 < n) (hn2 : n ≤ 1000000) (w : World) : Calls Tryz.prog 10 #[.int .i64 c, .int .i64 n] w fun e w' => ∃ p : Nat, (p : Int) < n ∧ e = .returned (.int .i64 (p : Int)) ∧ Below w.heap.size w w' :=
  (pickL c n hc hn hn2 w).mono fun e w' ⟨⟨r, h1, h2⟩, h3⟩ => ⟨r, h2, h1, h3 ▸ Below.refl _ _⟩
theorem dig0 : QDig 3 (0 : Rat) := by unfold QDig Dig; decide +kernel
/-- The part of an interval that is not less than 0, as the law makes it. -/
def clip (a : Iv) : Iv := ⟨if a.lo < 0 then 0 else a.lo, if a.hi < (if a.lo < 0 then 0 else a.lo) then (if a.lo < 0 then 0 else a.lo) else a.hi⟩
theorem clip_lo {a : Iv} : (cmpQ a.lo 0 < 0 ∧ (clip a).lo = 0) ∨ (¬ cmpQ a.lo 0 < 0 ∧ (clip a).lo = a.lo) := by
  rw [cmpQ_lt]; unfold clip; by_cases h : a.lo < 0 <;> simp [h]
theorem clip_hi {a : Iv} : (cmpQ a.hi (clip a).lo < 0 ∧ (clip a).hi = (clip a).lo) ∨ (¬ cmpQ a.hi (clip a).lo < 0 ∧ (clip a).hi = a.hi) := by
  rw [cmpQ_lt]; unfold clip; simp only; generalize (if a.lo < 0 then 0 else a.lo) = l; by_cases h : a.hi < l <;> simp [h]
theorem clip_dig {a : Iv} (h : IDig 3 a) : IDig 3 (clip a) := by
  have h1 : QDig 3 (clip a).lo := by unfold clip; simp only; split; exact dig0; exact h.1
  refine ⟨h1, ?_⟩
  rcases clip_hi (a := a) with ⟨_, e⟩ | ⟨_, e⟩ <;> rw [e]
  · exact h1
  · exact h.2
theorem clip_ok {a : Iv} : (clip a).Ok := by
  show (clip a).lo ≤ (clip a).hi
  rcases clip_hi (a := a) with ⟨_, e⟩ | ⟨h, e⟩ <;> rw [e]
  · exact Rat.le_refl
  · rw [cmpQ_lt] at h; exact Rat.not_lt.1 h
theorem clip_nonneg {a : Iv} : 0 ≤ (clip a).lo := by
  unfold clip; simp only; split
  · exact Rat.le_refl
  · rename_i h; exact Rat.not_lt.1 h
theorem nsqrt {a : Iv} {p : Nat} (da : IDig 3 a) (oa : a.Ok) (h0 : 0 ≤ a.lo) (hp : (p : Int) < 13) (w : World) (he : Env w) :
    Calls Tryz.prog 21 #[.agg #[.string (S (a.lo * a.lo).num), .string (S ((a.lo * a.lo).den : Int)), .string (S (a.hi * a.hi).num), .string (S ((a.hi * a.hi).den : Int))], .int .i64 (p : Int)] w fun e w' =>
      ∃ s : Iv, (IDig 200 s ∧ ∀ r, a.Has r → s.lo ≤ r ∧ r ≤ s.hi) ∧ e = .returned (.tuple #[.agg #[.string (S s.lo.num), .string (S (s.lo.den : Int)), .string (S s.hi.num), .string (S (s.hi.den : Int))], .int .i64 0]) ∧ Below w.heap.size w w' := by
  have d2 : IDig 6 ⟨a.lo * a.lo, a.hi * a.hi⟩ := ⟨da.1.mul da.1, da.2.mul da.2⟩
  have o2 : Iv.Ok ⟨a.lo * a.lo, a.hi * a.hi⟩ := sq_mono h0 oa
  have hn : (0 : Rat) ≤ a.lo * a.lo := Rat.mul_nonneg h0 h0
  refine (esqrt (p := p) d2 (by omega) o2 (by omega) (by omega) hn w he).mono ?_
  rintro e w' ⟨s, hs, rfl, hb⟩
  refine ⟨s, ⟨(SqrtI.dig d2 (by omega) hs).mono (by omega), fun r hr => ?_⟩, rfl, hb⟩
  have hr0 : 0 ≤ r := Rat.le_trans h0 hr.1
  exact SqrtI.has (TT_pos p) hr0 ⟨sq_mono h0 hr.1, sq_mono hr0 hr.2⟩ hs
theorem nunit (i : Nat) (hi : i < 13) (w : World) (he : Env w) : Calls Tryz.prog 16 #[.agg #[.string (S (Rat.divInt 1 (TT i)).num), .string (S ((Rat.divInt 1 (TT i)).den : Int))], .agg #[.string (S (Rat.divInt 10 1).num), .string (S ((Rat.divInt 10 1).den : Int))]] w fun e w' =>
    e = .returned (.tuple #[.agg #[.string (S (Rat.divInt 1 (TT (i + 1))).num), .string (S ((Rat.divInt 1 (TT (i + 1))).den : Int))], .int .i64 0]) ∧ Below w.heap.size w w' := by
  have h := qdiv (unit_dig i) (small_dig (n := 10) (d := 1) (by decide) (by decide) (by decide)) (by omega) (by decide +kernel) w he
  have e : Rat.divInt 1 (TT i) / Rat.divInt 10 1 = Rat.divInt 1 (TT (i + 1)) := by rw [← unit_next i]; rw [show Rat.divInt 10 1 = 10 from by decide +kernel]
  rw [e] at h
  exact h
set_option maxRecDepth 100000 in
set_option maxHeartbeats 16000000 in
theorem enclosureRoots_any {a0 : Addr} (x0 x1 x2 x3 part pl y0 y1 y2 y3 : Int) (hx : IsInt x0 ∧ IsInt x1 ∧ IsInt x2 ∧ IsInt x3) (hpart : IsInt part) (hp : IsInt pl) (hy : IsInt y0 ∧ IsInt y1 ∧ IsInt y2 ∧ IsInt y3) (w : World) (he : EnvE a0 w) :
    Calls Tryz.prog 4 #[.agg #[.int .i64 x0, .int .i64 x1, .int .i64 x2, .int .i64 x3], .int .i64 part, .int .i64 pl, .agg #[.int .i64 y0, .int .i64 y1, .int .i64 y2, .int .i64 y3]] w (BoolOk true w) := by
  have hB : Below w.heap.size w w := Below.refl _ _
  have MS := fun W (h : EnvE a0 W) => sane5 W h
  have MX := fun W => rmade x0 x1 x2 x3 hx.1 hx.2.1 hx.2.2.1 hx.2.2.2 W
  have MY := fun W => rmade y0 y1 y2 y3 hy.1 hy.2.1 hy.2.2.1 hy.2.2.2 W
  have PP := fun W => npick pl 13 hp (by omega) (by omega) W
  have R0 := fun W => lratio (n := 0) (d := 1) ⟨by omega, by omega⟩ ⟨by omega, by omega⟩ (by omega) W
  have R1 := fun W => lratio (n := 1) (d := 1) ⟨by omega, by omega⟩ ⟨by omega, by omega⟩ (by omega) W
  have R10 := fun W => lratio (n := 10) (d := 1) ⟨by omega, by omega⟩ ⟨by omega, by omega⟩ (by omega) W
  have e00 : Rat.divInt 0 1 = 0 := by decide +kernel
  have e01 : Rat.divInt 1 1 = Rat.divInt 1 (TT 0) := by decide +kernel
  rw [e00] at R0
  rw [e01] at R1
  clear e00 e01
  unfold BoolOk at MS
  unfold ivIs I at MX MY
  unfold QIs Q at R0 R1 R10
  clear hx hy hp
  go_enter Tryz.func4, Tryz.ntmps4
  go_wp2_with fail
  have sB := hB.size
  refine world_cut (fun X => Below w.heap.size w X ∧ Row X w.heap.size (.cells #[.int .i64 x0, .int .i64 x1, .int .i64 x2, .int .i64 x3] 22) ∧ Row X (w.heap.size + 1) (.cells #[.int .i64 y0, .int .i64 y1, .int .i64 y2, .int .i64 y3] 22)) ⟨BW, RW, RW⟩ ?_
  clear hB sB
  rintro V1 ⟨hB, rx, ry⟩
  have Fx : ∀ X, Row X w.heap.size (.cells #[.int .i64 x0, .int .i64 x1, .int .i64 x2, .int .i64 x3] 22) → (w.heap.size < X.heap.size ∧ X.cell? ⟨w.heap.size, 0, none⟩ = some (.int .i64 x0) ∧ X.cell? ⟨w.heap.size, 1, none⟩ = some (.int .i64 x1) ∧ X.cell? ⟨w.heap.size, 2, none⟩ = some (.int .i64 x2) ∧ X.cell? ⟨w.heap.size, 3, none⟩ = some (.int .i64 x3)) := fun X h => ⟨h.1, Row.cell_at h 0 rfl, Row.cell_at h 1 rfl, Row.cell_at h 2 rfl, Row.cell_at h 3 rfl⟩
  obtain ⟨sx, cx0, cx1, cx2, cx3⟩ := Fx _ rx
  have Fy : ∀ X, Row X (w.heap.size + 1) (.cells #[.int .i64 y0, .int .i64 y1, .int .i64 y2, .int .i64 y3] 22) → (w.heap.size + 1 < X.heap.size ∧ X.cell? ⟨w.heap.size + 1, 0, none⟩ = some (.int .i64 y0) ∧ X.cell? ⟨w.heap.size + 1, 1, none⟩ = some (.int .i64 y1) ∧ X.cell? ⟨w.heap.size + 1, 2, none⟩ = some (.int .i64 y2) ∧ X.cell? ⟨w.heap.size + 1, 3, none⟩ = some (.int .i64 y3)) := fun X h => ⟨h.1, Row.cell_at h 0 rfl, Row.cell_at h 1 rfl, Row.cell_at h 2 rfl, Row.cell_at h 3 rfl⟩
  obtain ⟨sy, cy0, cy1, cy2, cy3⟩ := Fy _ ry
  refine (MS _ (he.below hB)).mono ?_
  rintro e W2 ⟨rfl, h1⟩
  clear sx cx0 cx1 cx2 cx3
  clear sy cy0 cy1 cy2 cy3
  replace hB := hB.trans (h1.mono hB.size)
  replace rx := Row.below rx h1
  replace ry := Row.below ry h1
  clear h1
  obtain ⟨sx, cx0, cx1, cx2, cx3⟩ := Fx _ rx
  obtain ⟨sy, cy0, cy1, cy2, cy3⟩ := Fy _ ry
  go_wp2_with fail
  refine (PP _).mono ?_
  rintro e W3 ⟨p, hp13, rfl, h1⟩
  clear sx cx0 cx1 cx2 cx3
  clear sy cy0 cy1 cy2 cy3
  replace hB := hB.trans (h1.mono hB.size)
  replace rx := Row.below rx h1
  replace ry := Row.below ry h1
  clear h1
  obtain ⟨sx, cx0, cx1, cx2, cx3⟩ := Fx _ rx
  obtain ⟨sy, cy0, cy1, cy2, cy3⟩ := Fy _ ry
  go_wp2_with fail
  clear rx
  clear sx cx0 cx1 cx2 cx3
  clear Fx
  refine (MX _).mono ?_
  rintro e W4 ⟨a, ⟨da, oa⟩, rfl, h1⟩
  clear sy cy0 cy1 cy2 cy3
  replace hB := hB.trans (h1.mono hB.size)
  replace ry := Row.below ry h1
  clear h1
  obtain ⟨sy, cy0, cy1, cy2, cy3⟩ := Fy _ ry
  clear MS PP MX
  have C1 := fun W (h : Env W) => qcompare a.lo 0 (da.1.mono (by omega)) (dig0.mono (by omega)) W h
  have C2 := fun W (h : Env W) => qcompare a.hi (clip a).lo (da.2.mono (by omega)) ((clip_dig da).1.mono (by omega)) W h
  have H1 := Lib.hid (clip_lo (a := a))
  have H2 := Lib.hid (clip_hi (a := a))
  have dc := clip_dig da
  have oc := clip_ok (a := a)
  have c0 := clip_nonneg (a := a)
  have MI := fun W => rinside (clip a) 3 dc (by omega) oc part hpart W
  have SQ := fun W (h : Env W) => nsqrt (p := p) dc oc c0 hp13 W h
  have ML := fun W (h : Env W) => qmul dc.1 dc.1 (by omega) W h
  have MH := fun W (h : Env W) => qmul dc.2 dc.2 (by omega) W h
  unfold CmpOk Q at C1 C2
  unfold I QSome Q at MI
  unfold QOk Q at ML MH
  clear hpart oa da dc oc c0
  generalize cmpQ a.lo 0 = k1 at *
  generalize cmpQ a.hi (clip a).lo = k2 at *
  generalize hg : S a.lo.num = aln at *
  have Galn := Lib.hid hg
  clear hg
  generalize hg : S (a.lo.den : Int) = ald at *
  have Gald := Lib.hid hg
  clear hg
  generalize hg : S a.hi.num = ahn at *
  have Gahn := Lib.hid hg
  clear hg
  generalize hg : S (a.hi.den : Int) = ahd at *
  have Gahd := Lib.hid hg
  clear hg
  generalize hg : S (0 : Rat).num = zn at *
  have Gzn := Lib.hid hg
  clear hg
  generalize hg : S ((0 : Rat).den : Int) = zd at *
  have Gzd := Lib.hid hg
  clear hg
  generalize hg : S (clip a).lo.num = ln at *
  have Gln := Lib.hid hg
  clear hg
  generalize hg : S ((clip a).lo.den : Int) = ld at *
  have Gld := Lib.hid hg
  clear hg
  generalize hg : S (clip a).hi.num = hn at *
  have Ghn := Lib.hid hg
  clear hg
  generalize hg : S ((clip a).hi.den : Int) = hd at *
  have Ghd := Lib.hid hg
  clear hg
  generalize hg : S ((clip a).lo * (clip a).lo).num = lln at *
  clear hg
  generalize hg : S (((clip a).lo * (clip a).lo).den : Int) = lld at *
  clear hg
  generalize hg : S ((clip a).hi * (clip a).hi).num = hhn at *
  clear hg
  generalize hg : S (((clip a).hi * (clip a).hi).den : Int) = hhd at *
  clear hg
  have J1 : Hid ((k1 < 0 ∧ ln = zn ∧ ld = zd) ∨ (¬ k1 < 0 ∧ ln = aln ∧ ld = ald)) := Lib.hid (H1.out.imp (fun h => ⟨h.1, by rw [← Gln.out, ← Gzn.out, h.2], by rw [← Gld.out, ← Gzd.out, h.2]⟩) (fun h => ⟨h.1, by rw [← Gln.out, ← Galn.out, h.2], by rw [← Gld.out, ← Gald.out, h.2]⟩))
  have J2 : Hid ((k2 < 0 ∧ hn = ln ∧ hd = ld) ∨ (¬ k2 < 0 ∧ hn = ahn ∧ hd = ahd)) := Lib.hid (H2.out.imp (fun h => ⟨h.1, by rw [← Ghn.out, ← Gln.out, h.2], by rw [← Ghd.out, ← Gld.out, h.2]⟩) (fun h => ⟨h.1, by rw [← Ghn.out, ← Gahn.out, h.2], by rw [← Ghd.out, ← Gahd.out, h.2]⟩))
  clear H1 H2 Galn Gald Gahn Gahd Gln Gld Ghn Ghd
  go_wp2_with fail
  have dy_a : w.heap.size + 1 < W4.heap.size := by omega
  have d0_a : w.heap.size ≤ W4.heap.size := by have := hB.size; omega
  have sB := hB.size
  refine wp_cut (fun X => Below w.heap.size w X ∧ Row X (w.heap.size + 1) (.cells #[.int .i64 y0, .int .i64 y1, .int .i64 y2, .int .i64 y3] 22) ∧ Row X W4.heap.size (.cells #[.string aln, .string ald, .string ahn, .string ahd] 29)) ⟨BW, RW, RW⟩ ?_
  clear ry
  clear sy cy0 cy1 cy2 cy3
  clear hB sB
  rintro V5 ⟨hB, ry, ra⟩
  obtain ⟨sy, cy0, cy1, cy2, cy3⟩ := Fy _ ry
  have Fa : ∀ X, Row X W4.heap.size (.cells #[.string aln, .string ald, .string ahn, .string ahd] 29) → (W4.heap.size < X.heap.size ∧ X.cell? ⟨W4.heap.size, 0, none⟩ = some (.string aln) ∧ X.cell? ⟨W4.heap.size, 1, none⟩ = some (.string ald) ∧ X.cell? ⟨W4.heap.size, 2, none⟩ = some (.string ahn) ∧ X.cell? ⟨W4.heap.size, 3, none⟩ = some (.string ahd) ∧ X.frozen? ⟨W4.heap.size, 0, none⟩ = false ∧ X.frozen? ⟨W4.heap.size, 1, none⟩ = false ∧ X.frozen? ⟨W4.heap.size, 2, none⟩ = false ∧ X.frozen? ⟨W4.heap.size, 3, none⟩ = false) := fun X h => ⟨h.1, Row.cell_at h 0 rfl, Row.cell_at h 1 rfl, Row.cell_at h 2 rfl, Row.cell_at h 3 rfl, frozen_of_row _ _ 0 _ _ h.2, frozen_of_row _ _ 1 _ _ h.2, frozen_of_row _ _ 2 _ _ h.2, frozen_of_row _ _ 3 _ _ h.2⟩
  obtain ⟨sa, ca0, ca1, ca2, ca3, fa0, fa1, fa2, fa3⟩ := Fa _ ra
  clear sy cy0 cy1 cy2 cy3
  clear sa ca0 ca1 ca2 ca3 fa0 fa1 fa2 fa3
  have KK4 : ∀ X, Row X (W4.heap.size) (.cells #[.string aln, .string ald, .string ahn, .string ahd] 29) → (X.cell? ⟨W4.heap.size, 0, none⟩ = some (.string aln) ∧ X.cell? ⟨W4.heap.size, 1, none⟩ = some (.string ald)) := fun X ha => ⟨Row.cell_at ha 0 rfl, Row.cell_at ha 1 rfl⟩
  go_region_held3 (fun X => X.cell? ⟨W4.heap.size, 0, none⟩ = some (.string aln) ∧ X.cell? ⟨W4.heap.size, 1, none⟩ = some (.string ald)) (first | exact KK4 _ RW) (first
      | (go_at_call 15; with_reducible refine (R0 _).mono ?_; rintro e W ⟨rfl, h1⟩; (try replace h1 := below_of_drew h1); replace hB := hB.trans (h1.mono hB.size); replace ry := Row.below ry h1; replace ra := Row.below ra h1)
      | (go_at_call 12; with_reducible refine (C1 _ (by first | exact he.env.below hB | exact he.env.below hB.drew | exact he.env.below (below_drewN hB _))).mono ?_; rintro e W ⟨rfl, h1⟩; (try replace h1 := below_of_drew h1); replace hB := hB.trans (h1.mono hB.size); replace ry := Row.below ry h1; replace ra := Row.below ra h1))
  clear KK4
  obtain ⟨sy, cy0, cy1, cy2, cy3⟩ := Fy _ ry
  obtain ⟨sa, ca0, ca1, ca2, ca3, fa0, fa1, fa2, fa3⟩ := Fa _ ra
  go_upto_if 46 with fail
  go_cut [] (fun W => Below w.heap.size w W ∧ Row W (w.heap.size + 1) (.cells #[.int .i64 y0, .int .i64 y1, .int .i64 y2, .int .i64 y3] 22) ∧ Row W W4.heap.size (.cells #[.string ln, .string ld, .string ahn, .string ahd] 29))
  case first =>
    rcases J1.out with ⟨g1, rfl, rfl⟩ | ⟨g1, rfl, rfl⟩
    · clear J1 J2
      skip
      go_wp2_with fail
      refine (R0 _).mono ?_
      rintro e W6 ⟨rfl, h1⟩
      clear sy cy0 cy1 cy2 cy3
      clear sa ca0 ca1 ca2 ca3 fa0 fa1 fa2 fa3
      replace hB := hB.trans (h1.mono hB.size)
      replace ry := Row.below ry h1
      replace ra := Row.below ra h1
      clear h1
      obtain ⟨sy, cy0, cy1, cy2, cy3⟩ := Fy _ ry
      obtain ⟨sa, ca0, ca1, ca2, ca3, fa0, fa1, fa2, fa3⟩ := Fa _ ra
      go_wp2
      go_meet
      case rel => exact ⟨BW, RW, RW⟩
    · clear J1 J2
      skip
      go_wp2
      go_meet
      case rel => exact ⟨BW, RW, RW⟩
  case rest =>
    clear hB ry ra
    clear sy cy0 cy1 cy2 cy3
    clear sa ca0 ca1 ca2 ca3 fa0 fa1 fa2 fa3
    obtain ⟨hB, ry, ra⟩ := hcut
    skip
    obtain ⟨sy, cy0, cy1, cy2, cy3⟩ := Fy _ ry
    clear Fa
    have Fa : ∀ X, Row X W4.heap.size (.cells #[.string ln, .string ld, .string ahn, .string ahd] 29) → (W4.heap.size < X.heap.size ∧ X.cell? ⟨W4.heap.size, 0, none⟩ = some (.string ln) ∧ X.cell? ⟨W4.heap.size, 1, none⟩ = some (.string ld) ∧ X.cell? ⟨W4.heap.size, 2, none⟩ = some (.string ahn) ∧ X.cell? ⟨W4.heap.size, 3, none⟩ = some (.string ahd) ∧ X.frozen? ⟨W4.heap.size, 0, none⟩ = false ∧ X.frozen? ⟨W4.heap.size, 1, none⟩ = false ∧ X.frozen? ⟨W4.heap.size, 2, none⟩ = false ∧ X.frozen? ⟨W4.heap.size, 3, none⟩ = false) := fun X h => ⟨h.1, Row.cell_at h 0 rfl, Row.cell_at h 1 rfl, Row.cell_at h 2 rfl, Row.cell_at h 3 rfl, frozen_of_row _ _ 0 _ _ h.2, frozen_of_row _ _ 1 _ _ h.2, frozen_of_row _ _ 2 _ _ h.2, frozen_of_row _ _ 3 _ _ h.2⟩
    obtain ⟨sa, ca0, ca1, ca2, ca3, fa0, fa1, fa2, fa3⟩ := Fa _ ra
    clear J1 C1
    go_wp2_with fail
    refine (C2 _ (he.env.below hB)).mono ?_
    rintro e W7 ⟨rfl, h1⟩
    clear sy cy0 cy1 cy2 cy3
    clear sa ca0 ca1 ca2 ca3 fa0 fa1 fa2 fa3
    replace hB := hB.trans (h1.mono hB.size)
    replace ry := Row.below ry h1
    replace ra := Row.below ra h1
    clear h1
    obtain ⟨sy, cy0, cy1, cy2, cy3⟩ := Fy _ ry
    obtain ⟨sa, ca0, ca1, ca2, ca3, fa0, fa1, fa2, fa3⟩ := Fa _ ra
    go_upto_if 54 with fail
    go_cut [] (fun W => Below w.heap.size w W ∧ Row W (w.heap.size + 1) (.cells #[.int .i64 y0, .int .i64 y1, .int .i64 y2, .int .i64 y3] 22) ∧ Row W W4.heap.size (.cells #[.string ln, .string ld, .string hn, .string hd] 29))
    case first =>
      rcases J2.out with ⟨g2, rfl, rfl⟩ | ⟨g2, rfl, rfl⟩
      · clear J2
        go_wp2
        go_meet
        case rel => exact ⟨BW, RW, RW⟩
      · clear J2
        go_wp2
        go_meet
        case rel => exact ⟨BW, RW, RW⟩
    case rest =>
      clear hB ry ra
      clear sy cy0 cy1 cy2 cy3
      clear sa ca0 ca1 ca2 ca3 fa0 fa1 fa2 fa3
      obtain ⟨hB, ry, ra⟩ := hcut
      skip
      obtain ⟨sy, cy0, cy1, cy2, cy3⟩ := Fy _ ry
      clear Fa
      have Fa : ∀ X, Row X W4.heap.size (.cells #[.string ln, .string ld, .string hn, .string hd] 29) → (W4.heap.size < X.heap.size ∧ X.cell? ⟨W4.heap.size, 0, none⟩ = some (.string ln) ∧ X.cell? ⟨W4.heap.size, 1, none⟩ = some (.string ld) ∧ X.cell? ⟨W4.heap.size, 2, none⟩ = some (.string hn) ∧ X.cell? ⟨W4.heap.size, 3, none⟩ = some (.string hd) ∧ X.frozen? ⟨W4.heap.size, 0, none⟩ = false ∧ X.frozen? ⟨W4.heap.size, 1, none⟩ = false ∧ X.frozen? ⟨W4.heap.size, 2, none⟩ = false ∧ X.frozen? ⟨W4.heap.size, 3, none⟩ = false) := fun X h => ⟨h.1, Row.cell_at h 0 rfl, Row.cell_at h 1 rfl, Row.cell_at h 2 rfl, Row.cell_at h 3 rfl, frozen_of_row _ _ 0 _ _ h.2, frozen_of_row _ _ 1 _ _ h.2, frozen_of_row _ _ 2 _ _ h.2, frozen_of_row _ _ 3 _ _ h.2⟩
      obtain ⟨sa, ca0, ca1, ca2, ca3, fa0, fa1, fa2, fa3⟩ := Fa _ ra
      clear J2 C2
      go_wp2_with fail
      refine (MI _).mono ?_
      rintro e W9 ⟨r, ⟨dr, hr⟩, rfl, h1⟩
      clear sy cy0 cy1 cy2 cy3
      clear sa ca0 ca1 ca2 ca3 fa0 fa1 fa2 fa3
      replace hB := hB.trans (h1.mono hB.size)
      replace ry := Row.below ry h1
      replace ra := Row.below ra h1
      clear h1
      obtain ⟨sy, cy0, cy1, cy2, cy3⟩ := Fy _ ry
      obtain ⟨sa, ca0, ca1, ca2, ca3, fa0, fa1, fa2, fa3⟩ := Fa _ ra
      clear MI
      go_wp2_with fail
      have da_r : W4.heap.size < W9.heap.size := by omega
      have sB := hB.size
      refine world_cut (fun X => Below w.heap.size w X ∧ Row X (w.heap.size + 1) (.cells #[.int .i64 y0, .int .i64 y1, .int .i64 y2, .int .i64 y3] 22) ∧ Row X W4.heap.size (.cells #[.string ln, .string ld, .string hn, .string hd] 29) ∧ Row X W9.heap.size (.cells #[.string (S r.num), .string (S (r.den : Int))] 26)) ⟨BW, RW, RW, RW⟩ ?_
      clear ry
      clear sy cy0 cy1 cy2 cy3
      clear ra
      clear sa ca0 ca1 ca2 ca3 fa0 fa1 fa2 fa3
      clear hB sB
      rintro V10 ⟨hB, ry, ra, rr⟩
      obtain ⟨sy, cy0, cy1, cy2, cy3⟩ := Fy _ ry
      obtain ⟨sa, ca0, ca1, ca2, ca3, fa0, fa1, fa2, fa3⟩ := Fa _ ra
      have Fr : ∀ X, Row X W9.heap.size (.cells #[.string (S r.num), .string (S (r.den : Int))] 26) → (W9.heap.size < X.heap.size ∧ X.cell? ⟨W9.heap.size, 0, none⟩ = some (.string (S r.num)) ∧ X.cell? ⟨W9.heap.size, 1, none⟩ = some (.string (S (r.den : Int)))) := fun X h => ⟨h.1, Row.cell_at h 0 rfl, Row.cell_at h 1 rfl⟩
      obtain ⟨sr, cr0, cr1⟩ := Fr _ rr
      refine (ML _ (he.env.below hB)).mono ?_
      rintro e W11 ⟨rfl, h1⟩
      clear sy cy0 cy1 cy2 cy3
      clear sa ca0 ca1 ca2 ca3 fa0 fa1 fa2 fa3
      clear sr cr0 cr1
      replace hB := hB.trans (h1.mono hB.size)
      replace ry := Row.below ry h1
      replace ra := Row.below ra h1
      replace rr := Row.below rr h1
      clear h1
      obtain ⟨sy, cy0, cy1, cy2, cy3⟩ := Fy _ ry
      obtain ⟨sa, ca0, ca1, ca2, ca3, fa0, fa1, fa2, fa3⟩ := Fa _ ra
      obtain ⟨sr, cr0, cr1⟩ := Fr _ rr
      go_wp2_with fail
      clear Fa
      have sB := hB.size
      refine world_cut (fun X => Below w.heap.size w X ∧ Row X (w.heap.size + 1) (.cells #[.int .i64 y0, .int .i64 y1, .int .i64 y2, .int .i64 y3] 22) ∧ Row X W9.heap.size (.cells #[.string (S r.num), .string (S (r.den : Int))] 26) ∧ Row X W11.heap.size (.cells #[.string lln, .string lld] 26)) ⟨BW, RW, RW, RW⟩ ?_
      clear ry
      clear sy cy0 cy1 cy2 cy3
      clear ra
      clear sa ca0 ca1 ca2 ca3 fa0 fa1 fa2 fa3
      clear rr
      clear sr cr0 cr1
      clear hB sB
      rintro V12 ⟨hB, ry, rr, rlo⟩
      obtain ⟨sy, cy0, cy1, cy2, cy3⟩ := Fy _ ry
      obtain ⟨sr, cr0, cr1⟩ := Fr _ rr
      have Flo : ∀ X, Row X W11.heap.size (.cells #[.string lln, .string lld] 26) → (W11.heap.size < X.heap.size ∧ X.cell? ⟨W11.heap.size, 0, none⟩ = some (.string lln) ∧ X.cell? ⟨W11.heap.size, 1, none⟩ = some (.string lld)) := fun X h => ⟨h.1, Row.cell_at h 0 rfl, Row.cell_at h 1 rfl⟩
      obtain ⟨slo, clo0, clo1⟩ := Flo _ rlo
      refine (MH _ (he.env.below hB)).mono ?_
      rintro e W13 ⟨rfl, h1⟩
      clear sy cy0 cy1 cy2 cy3
      clear sr cr0 cr1
      clear slo clo0 clo1
      replace hB := hB.trans (h1.mono hB.size)
      replace ry := Row.below ry h1
      replace rr := Row.below rr h1
      replace rlo := Row.below rlo h1
      clear h1
      obtain ⟨sy, cy0, cy1, cy2, cy3⟩ := Fy _ ry
      obtain ⟨sr, cr0, cr1⟩ := Fr _ rr
      obtain ⟨slo, clo0, clo1⟩ := Flo _ rlo
      go_wp2_with fail
      clear Flo
      have sB := hB.size
      refine world_cut (fun X => Below w.heap.size w X ∧ Row X (w.heap.size + 1) (.cells #[.int .i64 y0, .int .i64 y1, .int .i64 y2, .int .i64 y3] 22) ∧ Row X W9.heap.size (.cells #[.string (S r.num), .string (S (r.den : Int))] 26)) ⟨BW, RW, RW⟩ ?_
      clear ry
      clear sy cy0 cy1 cy2 cy3
      clear rr
      clear sr cr0 cr1
      clear rlo
      clear slo clo0 clo1
      clear hB sB
      rintro V14 ⟨hB, ry, rr⟩
      obtain ⟨sy, cy0, cy1, cy2, cy3⟩ := Fy _ ry
      obtain ⟨sr, cr0, cr1⟩ := Fr _ rr
      refine (SQ _ (he.env.below hB)).mono ?_
      rintro e W15 ⟨s, ⟨ds, hss⟩, rfl, h1⟩
      clear sy cy0 cy1 cy2 cy3
      clear sr cr0 cr1
      replace hB := hB.trans (h1.mono hB.size)
      replace ry := Row.below ry h1
      replace rr := Row.below rr h1
      clear h1
      obtain ⟨sy, cy0, cy1, cy2, cy3⟩ := Fy _ ry
      obtain ⟨sr, cr0, cr1⟩ := Fr _ rr
      have CR := fun W (h : Env W) => econtains s r ds (dr.mono (by omega)) W h
      rw [decide_eq_true (hss r hr)] at CR
      unfold BoolOk I Q at CR
      clear SQ ML MH ds hss dr hr
      go_wp2_with fail
      clear Fr
      have sB := hB.size
      refine world_cut (fun X => Below w.heap.size w X ∧ Row X (w.heap.size + 1) (.cells #[.int .i64 y0, .int .i64 y1, .int .i64 y2, .int .i64 y3] 22)) ⟨BW, RW⟩ ?_
      clear ry
      clear sy cy0 cy1 cy2 cy3
      clear rr
      clear sr cr0 cr1
      clear hB sB
      rintro V16 ⟨hB, ry⟩
      obtain ⟨sy, cy0, cy1, cy2, cy3⟩ := Fy _ ry
      refine (CR _ (he.env.below hB)).mono ?_
      rintro e W17 ⟨rfl, h1⟩
      clear sy cy0 cy1 cy2 cy3
      replace hB := hB.trans (h1.mono hB.size)
      replace ry := Row.below ry h1
      clear h1
      obtain ⟨sy, cy0, cy1, cy2, cy3⟩ := Fy _ ry
      go_wp2_with fail
      clear ry
      clear sy cy0 cy1 cy2 cy3
      clear Fy
      refine (MY _).mono ?_
      rintro e W18 ⟨b, ⟨db, ob⟩, rfl, h1⟩
      replace hB := hB.trans (h1.mono hB.size)
      clear h1
      clear MY CR
      by_cases hb : b.lo < 0
      · have SE := fun W (h : EnvE a0 W) => esqrt_err (p := p) db ob (by omega) (by omega) hb W h
        have CB := fun W (h : Env W) => qcompare b.lo 0 (db.1.mono (by omega)) (dig0.mono (by omega)) W h
        have g3 := cmpQ_lt.2 hb
        unfold ivErr I at SE
        unfold CmpOk Q at CB
        rw [Gzn.out, Gzd.out] at CB
        generalize cmpQ b.lo 0 = k3 at *
        skip
        clear hb db ob
        go_wp2_with fail
        have sB := hB.size
        refine world_cut (fun X => Below w.heap.size w X ∧ Row X W18.heap.size (.cells #[.string (S b.lo.num), .string (S (b.lo.den : Int)), .string (S b.hi.num), .string (S (b.hi.den : Int))] 29)) ⟨BW, RW⟩ ?_
        clear hB sB
        rintro V19 ⟨hB, rb⟩
        have Fb : ∀ X, Row X W18.heap.size (.cells #[.string (S b.lo.num), .string (S (b.lo.den : Int)), .string (S b.hi.num), .string (S (b.hi.den : Int))] 29) → (W18.heap.size < X.heap.size ∧ X.cell? ⟨W18.heap.size, 0, none⟩ = some (.string (S b.lo.num)) ∧ X.cell? ⟨W18.heap.size, 1, none⟩ = some (.string (S (b.lo.den : Int))) ∧ X.cell? ⟨W18.heap.size, 2, none⟩ = some (.string (S b.hi.num)) ∧ X.cell? ⟨W18.heap.size, 3, none⟩ = some (.string (S (b.hi.den : Int)))) := fun X h => ⟨h.1, Row.cell_at h 0 rfl, Row.cell_at h 1 rfl, Row.cell_at h 2 rfl, Row.cell_at h 3 rfl⟩
        obtain ⟨sb, cb0, cb1, cb2, cb3⟩ := Fb _ rb
        refine (SE _ (he.below hB)).mono ?_
        rintro e W20 ⟨rfl, h1⟩
        clear sb cb0 cb1 cb2 cb3
        replace hB := hB.trans (h1.mono hB.size)
        replace rb := Row.below rb h1
        clear h1
        obtain ⟨sb, cb0, cb1, cb2, cb3⟩ := Fb _ rb
        go_wp2_with fail
        have sB := hB.size
        refine wp_cut (fun X => Below w.heap.size w X ∧ Row X W18.heap.size (.cells #[.string (S b.lo.num), .string (S (b.lo.den : Int)), .string (S b.hi.num), .string (S (b.hi.den : Int))] 29) ∧ Row X W20.heap.size (.cells #[.string ⟨#[]⟩, .string ⟨#[]⟩, .string ⟨#[]⟩, .string ⟨#[]⟩] 29)) ⟨BW, RW, RW⟩ ?_
        clear rb
        clear sb cb0 cb1 cb2 cb3
        clear hB sB
        rintro V21 ⟨hB, rb, rt⟩
        obtain ⟨sb, cb0, cb1, cb2, cb3⟩ := Fb _ rb
        have Ft : ∀ X, Row X W20.heap.size (.cells #[.string ⟨#[]⟩, .string ⟨#[]⟩, .string ⟨#[]⟩, .string ⟨#[]⟩] 29) → (W20.heap.size < X.heap.size ∧ X.cell? ⟨W20.heap.size, 0, none⟩ = some (.string ⟨#[]⟩) ∧ X.cell? ⟨W20.heap.size, 1, none⟩ = some (.string ⟨#[]⟩) ∧ X.cell? ⟨W20.heap.size, 2, none⟩ = some (.string ⟨#[]⟩) ∧ X.cell? ⟨W20.heap.size, 3, none⟩ = some (.string ⟨#[]⟩)) := fun X h => ⟨h.1, Row.cell_at h 0 rfl, Row.cell_at h 1 rfl, Row.cell_at h 2 rfl, Row.cell_at h 3 rfl⟩
        obtain ⟨st, ct0, ct1, ct2, ct3⟩ := Ft _ rt
        clear sb cb0 cb1 cb2 cb3
        clear st ct0 ct1 ct2 ct3
        have KK16 : ∀ X, Row X (W18.heap.size) (.cells #[.string (S b.lo.num), .string (S (b.lo.den : Int)), .string (S b.hi.num), .string (S (b.hi.den : Int))] 29) → (X.cell? ⟨W18.heap.size, 0, none⟩ = some (.string (S b.lo.num)) ∧ X.cell? ⟨W18.heap.size, 1, none⟩ = some (.string (S (b.lo.den : Int)))) := fun X hb => ⟨Row.cell_at hb 0 rfl, Row.cell_at hb 1 rfl⟩
        go_region_held3 (fun X => X.cell? ⟨W18.heap.size, 0, none⟩ = some (.string (S b.lo.num)) ∧ X.cell? ⟨W18.heap.size, 1, none⟩ = some (.string (S (b.lo.den : Int)))) (first | exact KK16 _ RW) (first
            | (go_at_call 15; with_reducible refine (R0 _).mono ?_; rintro e W ⟨rfl, h1⟩; (try replace h1 := below_of_drew h1); replace hB := hB.trans (h1.mono hB.size); replace rb := Row.below rb h1; replace rt := Row.below rt h1)
            | (go_at_call 12; with_reducible refine (CB _ (by first | exact he.env.below hB | exact he.env.below hB.drew | exact he.env.below (below_drewN hB _))).mono ?_; rintro e W ⟨rfl, h1⟩; (try replace h1 := below_of_drew h1); replace hB := hB.trans (h1.mono hB.size); replace rb := Row.below rb h1; replace rt := Row.below rt h1))
        clear KK16
        obtain ⟨sb, cb0, cb1, cb2, cb3⟩ := Fb _ rb
        obtain ⟨st, ct0, ct1, ct2, ct3⟩ := Ft _ rt
        go_wp2
        go_ret
        exact ⟨rfl, hB⟩
      · have SE := fun W (h : Env W) => esqrt (p := p) db (by omega) ob (by omega) (by omega) (Rat.not_lt.1 hb) W h
        have CB := fun W (h : Env W) => qcompare b.lo 0 (db.1.mono (by omega)) (dig0.mono (by omega)) W h
        have g3 : ¬ cmpQ b.lo 0 < 0 := fun h => hb (cmpQ_lt.1 h)
        have DV := fun (i : Nat) (h : i < p) W (h2 : Env W) => nunit i (by omega) W h2
        unfold ivOk I at SE
        unfold CmpOk Q at CB
        rw [Gzn.out, Gzd.out] at CB
        generalize cmpQ b.lo 0 = k3 at *
        clear hb ob
        go_wp2_with fail
        have sB := hB.size
        refine world_cut (fun X => Below w.heap.size w X ∧ Row X W18.heap.size (.cells #[.string (S b.lo.num), .string (S (b.lo.den : Int)), .string (S b.hi.num), .string (S (b.hi.den : Int))] 29)) ⟨BW, RW⟩ ?_
        clear hB sB
        rintro V19 ⟨hB, rb⟩
        have Fb : ∀ X, Row X W18.heap.size (.cells #[.string (S b.lo.num), .string (S (b.lo.den : Int)), .string (S b.hi.num), .string (S (b.hi.den : Int))] 29) → (W18.heap.size < X.heap.size ∧ X.cell? ⟨W18.heap.size, 0, none⟩ = some (.string (S b.lo.num)) ∧ X.cell? ⟨W18.heap.size, 1, none⟩ = some (.string (S (b.lo.den : Int))) ∧ X.cell? ⟨W18.heap.size, 2, none⟩ = some (.string (S b.hi.num)) ∧ X.cell? ⟨W18.heap.size, 3, none⟩ = some (.string (S (b.hi.den : Int)))) := fun X h => ⟨h.1, Row.cell_at h 0 rfl, Row.cell_at h 1 rfl, Row.cell_at h 2 rfl, Row.cell_at h 3 rfl⟩
        obtain ⟨sb, cb0, cb1, cb2, cb3⟩ := Fb _ rb
        refine (SE _ (he.env.below hB)).mono ?_
        rintro e W20 ⟨t, ht, rfl, h1⟩
        clear sb cb0 cb1 cb2 cb3
        replace hB := hB.trans (h1.mono hB.size)
        replace rb := Row.below rb h1
        clear h1
        obtain ⟨sb, cb0, cb1, cb2, cb3⟩ := Fb _ rb
        clear SE
        go_wp2_with fail
        have sB := hB.size
        refine wp_cut (fun X => Below w.heap.size w X ∧ Row X W18.heap.size (.cells #[.string (S b.lo.num), .string (S (b.lo.den : Int)), .string (S b.hi.num), .string (S (b.hi.den : Int))] 29) ∧ Row X W20.heap.size (.cells #[.string (S t.lo.num), .string (S (t.lo.den : Int)), .string (S t.hi.num), .string (S (t.hi.den : Int))] 29)) ⟨BW, RW, RW⟩ ?_
        clear rb
        clear sb cb0 cb1 cb2 cb3
        clear hB sB
        rintro V21 ⟨hB, rb, rt⟩
        obtain ⟨sb, cb0, cb1, cb2, cb3⟩ := Fb _ rb
        have Ft : ∀ X, Row X W20.heap.size (.cells #[.string (S t.lo.num), .string (S (t.lo.den : Int)), .string (S t.hi.num), .string (S (t.hi.den : Int))] 29) → (W20.heap.size < X.heap.size ∧ X.cell? ⟨W20.heap.size, 0, none⟩ = some (.string (S t.lo.num)) ∧ X.cell? ⟨W20.heap.size, 1, none⟩ = some (.string (S (t.lo.den : Int))) ∧ X.cell? ⟨W20.heap.size, 2, none⟩ = some (.string (S t.hi.num)) ∧ X.cell? ⟨W20.heap.size, 3, none⟩ = some (.string (S (t.hi.den : Int)))) := fun X h => ⟨h.1, Row.cell_at h 0 rfl, Row.cell_at h 1 rfl, Row.cell_at h 2 rfl, Row.cell_at h 3 rfl⟩
        obtain ⟨st, ct0, ct1, ct2, ct3⟩ := Ft _ rt
        clear sb cb0 cb1 cb2 cb3
        clear st ct0 ct1 ct2 ct3
        have KK16 : ∀ X, Row X (W18.heap.size) (.cells #[.string (S b.lo.num), .string (S (b.lo.den : Int)), .string (S b.hi.num), .string (S (b.hi.den : Int))] 29) → (X.cell? ⟨W18.heap.size, 0, none⟩ = some (.string (S b.lo.num)) ∧ X.cell? ⟨W18.heap.size, 1, none⟩ = some (.string (S (b.lo.den : Int)))) := fun X hb => ⟨Row.cell_at hb 0 rfl, Row.cell_at hb 1 rfl⟩
        go_region_held3 (fun X => X.cell? ⟨W18.heap.size, 0, none⟩ = some (.string (S b.lo.num)) ∧ X.cell? ⟨W18.heap.size, 1, none⟩ = some (.string (S (b.lo.den : Int)))) (first | exact KK16 _ RW) (first
            | (go_at_call 15; with_reducible refine (R0 _).mono ?_; rintro e W ⟨rfl, h1⟩; (try replace h1 := below_of_drew h1); replace hB := hB.trans (h1.mono hB.size); replace rb := Row.below rb h1; replace rt := Row.below rt h1)
            | (go_at_call 12; with_reducible refine (CB _ (by first | exact he.env.below hB | exact he.env.below hB.drew | exact he.env.below (below_drewN hB _))).mono ?_; rintro e W ⟨rfl, h1⟩; (try replace h1 := below_of_drew h1); replace hB := hB.trans (h1.mono hB.size); replace rb := Row.below rb h1; replace rt := Row.below rt h1))
        clear KK16
        obtain ⟨sb, cb0, cb1, cb2, cb3⟩ := Fb _ rb
        obtain ⟨st, ct0, ct1, ct2, ct3⟩ := Ft _ rt
        go_wp2_with fail
        refine (R1 _).mono ?_
        rintro e W22 ⟨rfl, h1⟩
        clear sb cb0 cb1 cb2 cb3
        clear st ct0 ct1 ct2 ct3
        replace hB := hB.trans (h1.mono hB.size)
        replace rb := Row.below rb h1
        replace rt := Row.below rt h1
        clear h1
        obtain ⟨sb, cb0, cb1, cb2, cb3⟩ := Fb _ rb
        obtain ⟨st, ct0, ct1, ct2, ct3⟩ := Ft _ rt
        clear CB g3
        go_wp2_with fail
        have db_st : W18.heap.size < W22.heap.size := by omega
        have dt_st : W20.heap.size < W22.heap.size := by omega
        have d0_st : w.heap.size ≤ W22.heap.size := by have := hB.size; omega
        have sB := hB.size
        refine wp_cut (fun X => Below w.heap.size w X ∧ Row X W18.heap.size (.cells #[.string (S b.lo.num), .string (S (b.lo.den : Int)), .string (S b.hi.num), .string (S (b.hi.den : Int))] 29) ∧ Row X W20.heap.size (.cells #[.string (S t.lo.num), .string (S (t.lo.den : Int)), .string (S t.hi.num), .string (S (t.hi.den : Int))] 29) ∧ Row X W22.heap.size (.cells #[.string (S (Rat.divInt 1 (TT 0)).num), .string (S ((Rat.divInt 1 (TT 0)).den : Int))] 26)) ⟨BW, RW, RW, RW⟩ ?_
        clear rb
        clear sb cb0 cb1 cb2 cb3
        clear rt
        clear st ct0 ct1 ct2 ct3
        clear hB sB
        rintro V23 ⟨hB, rb, rt, rst⟩
        obtain ⟨sb, cb0, cb1, cb2, cb3⟩ := Fb _ rb
        obtain ⟨st, ct0, ct1, ct2, ct3⟩ := Ft _ rt
        have Fst : ∀ X, Row X W22.heap.size (.cells #[.string (S (Rat.divInt 1 (TT 0)).num), .string (S ((Rat.divInt 1 (TT 0)).den : Int))] 26) → (W22.heap.size < X.heap.size ∧ X.cell? ⟨W22.heap.size, 0, none⟩ = some (.string (S (Rat.divInt 1 (TT 0)).num)) ∧ X.cell? ⟨W22.heap.size, 1, none⟩ = some (.string (S ((Rat.divInt 1 (TT 0)).den : Int))) ∧ X.frozen? ⟨W22.heap.size, 0, none⟩ = false ∧ X.frozen? ⟨W22.heap.size, 1, none⟩ = false) := fun X h => ⟨h.1, Row.cell_at h 0 rfl, Row.cell_at h 1 rfl, frozen_of_row _ _ 0 _ _ h.2, frozen_of_row _ _ 1 _ _ h.2⟩
        obtain ⟨sst, cst0, cst1, fst0, fst1⟩ := Fst _ rst
        go_loopw [22] (fun v22 wr => ∃ i : Nat, v22 = .int .i64 (i : Int) ∧ i ≤ p ∧ Below w.heap.size w wr ∧ Row wr W18.heap.size (.cells #[.string (S b.lo.num), .string (S (b.lo.den : Int)), .string (S b.hi.num), .string (S (b.hi.den : Int))] 29) ∧ Row wr W20.heap.size (.cells #[.string (S t.lo.num), .string (S (t.lo.den : Int)), .string (S t.hi.num), .string (S (t.hi.den : Int))] 29) ∧ Row wr W22.heap.size (.cells #[.string (S (Rat.divInt 1 (TT i)).num), .string (S ((Rat.divInt 1 (TT i)).den : Int))] 26)) (fun v22 _ => (p - intOf v22).toNat)
        case atStart => exact ⟨0, rfl, by omega, hB, rb, rt, rst⟩
        case round =>
          clear sb cb0 cb1 cb2 cb3
          clear st ct0 ct1 ct2 ct3
          clear sst cst0 cst1 fst0 fst1
          clear hB rb rt rst
          obtain ⟨i, rfl, hi, hB, rb, rt, rst⟩ := hrel
          rcases Nat.lt_or_ge i p with hlt | hge
          · obtain ⟨sb, cb0, cb1, cb2, cb3⟩ := Fb _ rb
            obtain ⟨st, ct0, ct1, ct2, ct3⟩ := Ft _ rt
            clear Fst
            have Fst : ∀ X, Row X W22.heap.size (.cells #[.string (S (Rat.divInt 1 (TT i)).num), .string (S ((Rat.divInt 1 (TT i)).den : Int))] 26) → (W22.heap.size < X.heap.size ∧ X.cell? ⟨W22.heap.size, 0, none⟩ = some (.string (S (Rat.divInt 1 (TT i)).num)) ∧ X.cell? ⟨W22.heap.size, 1, none⟩ = some (.string (S ((Rat.divInt 1 (TT i)).den : Int))) ∧ X.frozen? ⟨W22.heap.size, 0, none⟩ = false ∧ X.frozen? ⟨W22.heap.size, 1, none⟩ = false) := fun X h => ⟨h.1, Row.cell_at h 0 rfl, Row.cell_at h 1 rfl, frozen_of_row _ _ 0 _ _ h.2, frozen_of_row _ _ 1 _ _ h.2⟩
            obtain ⟨sst, cst0, cst1, fst0, fst1⟩ := Fst _ rst
            have hlt8 : (i : Int) < (p : Int) := by omega
            go_wp2_with fail
            go_region_with (first
                | (go_at_call 15; refine (R10 _).mono ?_; rintro e W ⟨rfl, h1⟩; (try replace h1 := below_of_drew h1); replace hB := hB.trans (h1.mono hB.size); replace rb := Row.below rb h1; replace rt := Row.below rt h1; replace rst := Row.below rst h1; obtain ⟨sb, cb0, cb1, cb2, cb3⟩ := Fb _ rb; obtain ⟨st, ct0, ct1, ct2, ct3⟩ := Ft _ rt; obtain ⟨sst, cst0, cst1, fst0, fst1⟩ := Fst _ rst)
                | (go_at_call 16; refine (DV i hlt _ (by first | exact he.env.below hB | exact he.env.below hB.drew | exact he.env.below (below_drewN hB _))).mono ?_; rintro e W ⟨rfl, h1⟩; (try replace h1 := below_of_drew h1); replace hB := hB.trans (h1.mono hB.size); replace rb := Row.below rb h1; replace rt := Row.below rt h1; replace rst := Row.below rst h1; obtain ⟨sb, cb0, cb1, cb2, cb3⟩ := Fb _ rb; obtain ⟨st, ct0, ct1, ct2, ct3⟩ := Ft _ rt; obtain ⟨sst, cst0, cst1, fst0, fst1⟩ := Fst _ rst))
            all_goals (go_wp2; go_roundw; (case rel => exact ⟨i + 1, by go_num, by omega, BW, RW, RW, RW⟩); (case measure => simp [intOf]; omega))
          · obtain rfl : i = p := by omega
            have dt := SqrtI.dig db (by omega) ht
            have du := unit_dig i
            have sl := RootLo.spec (TT_pos i) ht.1
            have sh := RootHi.spec (TT_pos i) ht.2
            generalize hu : Rat.divInt 1 (TT i) = u at *
            clear hu DV ht
            have dt1 : QDig 28 t.lo := dt.1.mono (by omega)
            have dt2 : QDig 28 t.hi := dt.2.mono (by omega)
            have du1 : QDig 13 u := du.mono (by omega)
            have AI := fun W (h : Env W) => qadd dt1 du1 (by omega) W h
            have SO := fun W (h : Env W) => qsub dt2 du1 (by omega) W h
            have di : QDig 42 (t.lo + u) := dt1.add du1
            have dou : QDig 42 (t.hi - u) := dt2.sub du1
            generalize hin : t.lo + u = inn at *
            generalize hou : t.hi - u = ou at *
            clear hin hou dt du du1
            have P1 := fun W (h : Env W) => qmul dt1 dt1 (by omega) W h
            have P2 := fun W (h : Env W) => qmul di di (by omega) W h
            have P3 := fun W (h : Env W) => qmul dt2 dt2 (by omega) W h
            have P4 := fun W (h : Env W) => qmul dou dou (by omega) W h
            have K1 := fun W (h : Env W) => qcompare (t.lo * t.lo) b.lo ((dt1.mul dt1).mono (by omega)) (db.1.mono (by omega)) W h
            have K2 := fun W (h : Env W) => qcompare (inn * inn) b.lo ((di.mul di).mono (by omega)) (db.1.mono (by omega)) W h
            have K3 := fun W (h : Env W) => qcompare (t.hi * t.hi) b.hi ((dt2.mul dt2).mono (by omega)) (db.2.mono (by omega)) W h
            have K4 := fun W (h : Env W) => qcompare ou 0 (dou.mono (by omega)) (dig0.mono (by omega)) W h
            have K5 := fun W (h : Env W) => qcompare (ou * ou) b.hi ((dou.mul dou).mono (by omega)) (db.2.mono (by omega)) W h
            have g1 := cmpQ_le.2 sl.2.1
            have g2 := cmpQ_gt.2 sl.2.2
            have g3 := cmpQ_ge.2 sh.2.1
            have g4 := Lib.hid (sh.2.2.imp cmpQ_lt.2 cmpQ_lt.2)
            unfold QOk Q at AI SO P1 P2 P3 P4
            unfold CmpOk Q at K1 K2 K3 K4 K5
            rw [Gzn.out, Gzd.out] at K4
            generalize cmpQ (t.lo * t.lo) b.lo = c1 at *
            generalize cmpQ (inn * inn) b.lo = c2 at *
            generalize cmpQ (t.hi * t.hi) b.hi = c3 at *
            generalize cmpQ ou 0 = c4 at *
            generalize cmpQ (ou * ou) b.hi = c5 at *
            generalize t.lo * t.lo = p2 at *
            generalize inn * inn = q2 at *
            generalize t.hi * t.hi = u2 at *
            generalize ou * ou = v2 at *
            clear dt1 dt2 di dou db sl sh
            obtain ⟨sb, cb0, cb1, cb2, cb3⟩ := Fb _ rb
            obtain ⟨st, ct0, ct1, ct2, ct3⟩ := Ft _ rt
            clear Fst
            have Fst : ∀ X, Row X W22.heap.size (.cells #[.string (S u.num), .string (S (u.den : Int))] 26) → (W22.heap.size < X.heap.size ∧ X.cell? ⟨W22.heap.size, 0, none⟩ = some (.string (S u.num)) ∧ X.cell? ⟨W22.heap.size, 1, none⟩ = some (.string (S (u.den : Int))) ∧ X.frozen? ⟨W22.heap.size, 0, none⟩ = false ∧ X.frozen? ⟨W22.heap.size, 1, none⟩ = false) := fun X h => ⟨h.1, Row.cell_at h 0 rfl, Row.cell_at h 1 rfl, frozen_of_row _ _ 0 _ _ h.2, frozen_of_row _ _ 1 _ _ h.2⟩
            obtain ⟨sst, cst0, cst1, fst0, fst1⟩ := Fst _ rst
            go_wp2_with fail
            refine (AI _ (he.env.below hB)).mono ?_
            rintro e W24 ⟨rfl, h1⟩
            clear sb cb0 cb1 cb2 cb3
            clear st ct0 ct1 ct2 ct3
            clear sst cst0 cst1 fst0 fst1
            replace hB := hB.trans (h1.mono hB.size)
            replace rb := Row.below rb h1
            replace rt := Row.below rt h1
            replace rst := Row.below rst h1
            clear h1
            obtain ⟨sb, cb0, cb1, cb2, cb3⟩ := Fb _ rb
            obtain ⟨st, ct0, ct1, ct2, ct3⟩ := Ft _ rt
            obtain ⟨sst, cst0, cst1, fst0, fst1⟩ := Fst _ rst
            go_wp2_with fail
            clear Fst
            have sB := hB.size
            refine world_cut (fun X => Below w.heap.size w X ∧ Row X W18.heap.size (.cells #[.string (S b.lo.num), .string (S (b.lo.den : Int)), .string (S b.hi.num), .string (S (b.hi.den : Int))] 29) ∧ Row X W20.heap.size (.cells #[.string (S t.lo.num), .string (S (t.lo.den : Int)), .string (S t.hi.num), .string (S (t.hi.den : Int))] 29) ∧ Row X W24.heap.size (.cells #[.string (S inn.num), .string (S (inn.den : Int))] 26)) ⟨BW, RW, RW, RW⟩ ?_
            clear rb
            clear sb cb0 cb1 cb2 cb3
            clear rt
            clear st ct0 ct1 ct2 ct3
            clear rst
            clear sst cst0 cst1 fst0 fst1
            clear hB sB
            rintro V25 ⟨hB, rb, rt, rinn⟩
            obtain ⟨sb, cb0, cb1, cb2, cb3⟩ := Fb _ rb
            obtain ⟨st, ct0, ct1, ct2, ct3⟩ := Ft _ rt
            have Finn : ∀ X, Row X W24.heap.size (.cells #[.string (S inn.num), .string (S (inn.den : Int))] 26) → (W24.heap.size < X.heap.size ∧ X.cell? ⟨W24.heap.size, 0, none⟩ = some (.string (S inn.num)) ∧ X.cell? ⟨W24.heap.size, 1, none⟩ = some (.string (S (inn.den : Int)))) := fun X h => ⟨h.1, Row.cell_at h 0 rfl, Row.cell_at h 1 rfl⟩
            obtain ⟨sinn, cinn0, cinn1⟩ := Finn _ rinn
            refine (SO _ (he.env.below hB)).mono ?_
            rintro e W26 ⟨rfl, h1⟩
            clear sb cb0 cb1 cb2 cb3
            clear st ct0 ct1 ct2 ct3
            clear sinn cinn0 cinn1
            replace hB := hB.trans (h1.mono hB.size)
            replace rb := Row.below rb h1
            replace rt := Row.below rt h1
            replace rinn := Row.below rinn h1
            clear h1
            obtain ⟨sb, cb0, cb1, cb2, cb3⟩ := Fb _ rb
            obtain ⟨st, ct0, ct1, ct2, ct3⟩ := Ft _ rt
            obtain ⟨sinn, cinn0, cinn1⟩ := Finn _ rinn
            go_wp2_with fail
            have sB := hB.size
            refine world_cut (fun X => Below w.heap.size w X ∧ Row X W18.heap.size (.cells #[.string (S b.lo.num), .string (S (b.lo.den : Int)), .string (S b.hi.num), .string (S (b.hi.den : Int))] 29) ∧ Row X W20.heap.size (.cells #[.string (S t.lo.num), .string (S (t.lo.den : Int)), .string (S t.hi.num), .string (S (t.hi.den : Int))] 29) ∧ Row X W24.heap.size (.cells #[.string (S inn.num), .string (S (inn.den : Int))] 26) ∧ Row X W26.heap.size (.cells #[.string (S ou.num), .string (S (ou.den : Int))] 26)) ⟨BW, RW, RW, RW, RW⟩ ?_
            clear rb
            clear sb cb0 cb1 cb2 cb3
            clear rt
            clear st ct0 ct1 ct2 ct3
            clear rinn
            clear sinn cinn0 cinn1
            clear hB sB
            rintro V27 ⟨hB, rb, rt, rinn, rou⟩
            obtain ⟨sb, cb0, cb1, cb2, cb3⟩ := Fb _ rb
            obtain ⟨st, ct0, ct1, ct2, ct3⟩ := Ft _ rt
            obtain ⟨sinn, cinn0, cinn1⟩ := Finn _ rinn
            have Fou : ∀ X, Row X W26.heap.size (.cells #[.string (S ou.num), .string (S (ou.den : Int))] 26) → (W26.heap.size < X.heap.size ∧ X.cell? ⟨W26.heap.size, 0, none⟩ = some (.string (S ou.num)) ∧ X.cell? ⟨W26.heap.size, 1, none⟩ = some (.string (S (ou.den : Int)))) := fun X h => ⟨h.1, Row.cell_at h 0 rfl, Row.cell_at h 1 rfl⟩
            obtain ⟨sou, cou0, cou1⟩ := Fou _ rou
            refine (P1 _ (he.env.below hB)).mono ?_
            rintro e W28 ⟨rfl, h1⟩
            clear sb cb0 cb1 cb2 cb3
            clear st ct0 ct1 ct2 ct3
            clear sinn cinn0 cinn1
            clear sou cou0 cou1
            replace hB := hB.trans (h1.mono hB.size)
            replace rb := Row.below rb h1
            replace rt := Row.below rt h1
            replace rinn := Row.below rinn h1
            replace rou := Row.below rou h1
            clear h1
            obtain ⟨sb, cb0, cb1, cb2, cb3⟩ := Fb _ rb
            obtain ⟨st, ct0, ct1, ct2, ct3⟩ := Ft _ rt
            obtain ⟨sinn, cinn0, cinn1⟩ := Finn _ rinn
            obtain ⟨sou, cou0, cou1⟩ := Fou _ rou
            go_wp2_with fail
            clear Finn
            have sB := hB.size
            refine world_cut (fun X => Below w.heap.size w X ∧ Row X W18.heap.size (.cells #[.string (S b.lo.num), .string (S (b.lo.den : Int)), .string (S b.hi.num), .string (S (b.hi.den : Int))] 29) ∧ Row X W20.heap.size (.cells #[.string (S t.lo.num), .string (S (t.lo.den : Int)), .string (S t.hi.num), .string (S (t.hi.den : Int))] 29) ∧ Row X W26.heap.size (.cells #[.string (S ou.num), .string (S (ou.den : Int))] 26) ∧ Row X W28.heap.size (.cells #[.string (S p2.num), .string (S (p2.den : Int))] 26)) ⟨BW, RW, RW, RW, RW⟩ ?_
            clear rb
            clear sb cb0 cb1 cb2 cb3
            clear rt
            clear st ct0 ct1 ct2 ct3
            clear rinn
            clear sinn cinn0 cinn1
            clear rou
            clear sou cou0 cou1
            clear hB sB
            rintro V29 ⟨hB, rb, rt, rou, rp2⟩
            obtain ⟨sb, cb0, cb1, cb2, cb3⟩ := Fb _ rb
            obtain ⟨st, ct0, ct1, ct2, ct3⟩ := Ft _ rt
            obtain ⟨sou, cou0, cou1⟩ := Fou _ rou
            have Fp2 : ∀ X, Row X W28.heap.size (.cells #[.string (S p2.num), .string (S (p2.den : Int))] 26) → (W28.heap.size < X.heap.size ∧ X.cell? ⟨W28.heap.size, 0, none⟩ = some (.string (S p2.num)) ∧ X.cell? ⟨W28.heap.size, 1, none⟩ = some (.string (S (p2.den : Int)))) := fun X h => ⟨h.1, Row.cell_at h 0 rfl, Row.cell_at h 1 rfl⟩
            obtain ⟨sp2, cp20, cp21⟩ := Fp2 _ rp2
            refine (P2 _ (he.env.below hB)).mono ?_
            rintro e W30 ⟨rfl, h1⟩
            clear sb cb0 cb1 cb2 cb3
            clear st ct0 ct1 ct2 ct3
            clear sou cou0 cou1
            clear sp2 cp20 cp21
            replace hB := hB.trans (h1.mono hB.size)
            replace rb := Row.below rb h1
            replace rt := Row.below rt h1
            replace rou := Row.below rou h1
            replace rp2 := Row.below rp2 h1
            clear h1
            obtain ⟨sb, cb0, cb1, cb2, cb3⟩ := Fb _ rb
            obtain ⟨st, ct0, ct1, ct2, ct3⟩ := Ft _ rt
            obtain ⟨sou, cou0, cou1⟩ := Fou _ rou
            obtain ⟨sp2, cp20, cp21⟩ := Fp2 _ rp2
            go_wp2_with fail
            clear Ft
            have sB := hB.size
            refine world_cut (fun X => Below w.heap.size w X ∧ Row X W18.heap.size (.cells #[.string (S b.lo.num), .string (S (b.lo.den : Int)), .string (S b.hi.num), .string (S (b.hi.den : Int))] 29) ∧ Row X W26.heap.size (.cells #[.string (S ou.num), .string (S (ou.den : Int))] 26) ∧ Row X W28.heap.size (.cells #[.string (S p2.num), .string (S (p2.den : Int))] 26) ∧ Row X W30.heap.size (.cells #[.string (S q2.num), .string (S (q2.den : Int))] 26)) ⟨BW, RW, RW, RW, RW⟩ ?_
            clear rb
            clear sb cb0 cb1 cb2 cb3
            clear rt
            clear st ct0 ct1 ct2 ct3
            clear rou
            clear sou cou0 cou1
            clear rp2
            clear sp2 cp20 cp21
            clear hB sB
            rintro V31 ⟨hB, rb, rou, rp2, rq2⟩
            obtain ⟨sb, cb0, cb1, cb2, cb3⟩ := Fb _ rb
            obtain ⟨sou, cou0, cou1⟩ := Fou _ rou
            obtain ⟨sp2, cp20, cp21⟩ := Fp2 _ rp2
            have Fq2 : ∀ X, Row X W30.heap.size (.cells #[.string (S q2.num), .string (S (q2.den : Int))] 26) → (W30.heap.size < X.heap.size ∧ X.cell? ⟨W30.heap.size, 0, none⟩ = some (.string (S q2.num)) ∧ X.cell? ⟨W30.heap.size, 1, none⟩ = some (.string (S (q2.den : Int)))) := fun X h => ⟨h.1, Row.cell_at h 0 rfl, Row.cell_at h 1 rfl⟩
            obtain ⟨sq2, cq20, cq21⟩ := Fq2 _ rq2
            refine (P3 _ (he.env.below hB)).mono ?_
            rintro e W32 ⟨rfl, h1⟩
            clear sb cb0 cb1 cb2 cb3
            clear sou cou0 cou1
            clear sp2 cp20 cp21
            clear sq2 cq20 cq21
            replace hB := hB.trans (h1.mono hB.size)
            replace rb := Row.below rb h1
            replace rou := Row.below rou h1
            replace rp2 := Row.below rp2 h1
            replace rq2 := Row.below rq2 h1
            clear h1
            obtain ⟨sb, cb0, cb1, cb2, cb3⟩ := Fb _ rb
            obtain ⟨sou, cou0, cou1⟩ := Fou _ rou
            obtain ⟨sp2, cp20, cp21⟩ := Fp2 _ rp2
            obtain ⟨sq2, cq20, cq21⟩ := Fq2 _ rq2
            go_wp2_with fail
            have sB := hB.size
            refine world_cut (fun X => Below w.heap.size w X ∧ Row X W18.heap.size (.cells #[.string (S b.lo.num), .string (S (b.lo.den : Int)), .string (S b.hi.num), .string (S (b.hi.den : Int))] 29) ∧ Row X W26.heap.size (.cells #[.string (S ou.num), .string (S (ou.den : Int))] 26) ∧ Row X W28.heap.size (.cells #[.string (S p2.num), .string (S (p2.den : Int))] 26) ∧ Row X W30.heap.size (.cells #[.string (S q2.num), .string (S (q2.den : Int))] 26) ∧ Row X W32.heap.size (.cells #[.string (S u2.num), .string (S (u2.den : Int))] 26)) ⟨BW, RW, RW, RW, RW, RW⟩ ?_
            clear rb
            clear sb cb0 cb1 cb2 cb3
            clear rou
            clear sou cou0 cou1
            clear rp2
            clear sp2 cp20 cp21
            clear rq2
            clear sq2 cq20 cq21
            clear hB sB
            rintro V33 ⟨hB, rb, rou, rp2, rq2, ru2⟩
            obtain ⟨sb, cb0, cb1, cb2, cb3⟩ := Fb _ rb
            obtain ⟨sou, cou0, cou1⟩ := Fou _ rou
            obtain ⟨sp2, cp20, cp21⟩ := Fp2 _ rp2
            obtain ⟨sq2, cq20, cq21⟩ := Fq2 _ rq2
            have Fu2 : ∀ X, Row X W32.heap.size (.cells #[.string (S u2.num), .string (S (u2.den : Int))] 26) → (W32.heap.size < X.heap.size ∧ X.cell? ⟨W32.heap.size, 0, none⟩ = some (.string (S u2.num)) ∧ X.cell? ⟨W32.heap.size, 1, none⟩ = some (.string (S (u2.den : Int)))) := fun X h => ⟨h.1, Row.cell_at h 0 rfl, Row.cell_at h 1 rfl⟩
            obtain ⟨su2, cu20, cu21⟩ := Fu2 _ ru2
            refine (P4 _ (he.env.below hB)).mono ?_
            rintro e W34 ⟨rfl, h1⟩
            clear sb cb0 cb1 cb2 cb3
            clear sou cou0 cou1
            clear sp2 cp20 cp21
            clear sq2 cq20 cq21
            clear su2 cu20 cu21
            replace hB := hB.trans (h1.mono hB.size)
            replace rb := Row.below rb h1
            replace rou := Row.below rou h1
            replace rp2 := Row.below rp2 h1
            replace rq2 := Row.below rq2 h1
            replace ru2 := Row.below ru2 h1
            clear h1
            obtain ⟨sb, cb0, cb1, cb2, cb3⟩ := Fb _ rb
            obtain ⟨sou, cou0, cou1⟩ := Fou _ rou
            obtain ⟨sp2, cp20, cp21⟩ := Fp2 _ rp2
            obtain ⟨sq2, cq20, cq21⟩ := Fq2 _ rq2
            obtain ⟨su2, cu20, cu21⟩ := Fu2 _ ru2
            go_upto_region 29 with fail
            have sB := hB.size
            refine wp_cut (fun X => Below w.heap.size w X ∧ Row X W18.heap.size (.cells #[.string (S b.lo.num), .string (S (b.lo.den : Int)), .string (S b.hi.num), .string (S (b.hi.den : Int))] 29) ∧ Row X W26.heap.size (.cells #[.string (S ou.num), .string (S (ou.den : Int))] 26) ∧ Row X W28.heap.size (.cells #[.string (S p2.num), .string (S (p2.den : Int))] 26) ∧ Row X W30.heap.size (.cells #[.string (S q2.num), .string (S (q2.den : Int))] 26) ∧ Row X W32.heap.size (.cells #[.string (S u2.num), .string (S (u2.den : Int))] 26) ∧ Row X W34.heap.size (.cells #[.string (S v2.num), .string (S (v2.den : Int))] 26)) ⟨BW, RW, RW, RW, RW, RW, RW⟩ ?_
            clear rb
            clear sb cb0 cb1 cb2 cb3
            clear rou
            clear sou cou0 cou1
            clear rp2
            clear sp2 cp20 cp21
            clear rq2
            clear sq2 cq20 cq21
            clear ru2
            clear su2 cu20 cu21
            clear hB sB
            rintro V35 ⟨hB, rb, rou, rp2, rq2, ru2, rv2⟩
            obtain ⟨sb, cb0, cb1, cb2, cb3⟩ := Fb _ rb
            obtain ⟨sou, cou0, cou1⟩ := Fou _ rou
            obtain ⟨sp2, cp20, cp21⟩ := Fp2 _ rp2
            obtain ⟨sq2, cq20, cq21⟩ := Fq2 _ rq2
            obtain ⟨su2, cu20, cu21⟩ := Fu2 _ ru2
            have Fv2 : ∀ X, Row X W34.heap.size (.cells #[.string (S v2.num), .string (S (v2.den : Int))] 26) → (W34.heap.size < X.heap.size ∧ X.cell? ⟨W34.heap.size, 0, none⟩ = some (.string (S v2.num)) ∧ X.cell? ⟨W34.heap.size, 1, none⟩ = some (.string (S (v2.den : Int)))) := fun X h => ⟨h.1, Row.cell_at h 0 rfl, Row.cell_at h 1 rfl⟩
            obtain ⟨sv2, cv20, cv21⟩ := Fv2 _ rv2
            refine wp_region_vals_seq [.agg #[.string (S p2.num), .string (S (p2.den : Int))], .pointer (some ⟨W18.heap.size, 0, none⟩), .agg #[.string (S b.lo.num), .string (S (b.lo.den : Int))], .int .i64 c1, .bool true, .bool true, .agg #[.string (S q2.num), .string (S (q2.den : Int))], .pointer (some ⟨W18.heap.size, 0, none⟩), .agg #[.string (S b.lo.num), .string (S (b.lo.den : Int))], .int .i64 c2, .bool true, .bool true, .bool true] (by kernel_rfl) rfl (allVals.cons (qv1 fun X h => Fp2 X (Row.below rp2 h)) (allVals.cons qv0 (allVals.cons (qv1 fun X h => Fb X (Row.below rb h)) (allVals.cons (qv2 fun X h => K1 X (he.env.below (hB.trans (h.mono hB.size)))) (allVals.cons (qvf g1) (allVals.cons qv0 (allVals.cons (qv1 fun X h => Fq2 X (Row.below rq2 h)) (allVals.cons qv0 (allVals.cons (qv1 fun X h => Fb X (Row.below rb h)) (allVals.cons (qv2 fun X h => K2 X (he.env.below (hB.trans (h.mono hB.size)))) (allVals.cons (qvf g2) (allVals.cons qv0 (allVals.cons qv0 trivial))))))))))))) ?_
            rintro W h1
            clear sb cb0 cb1 cb2 cb3
            clear sou cou0 cou1
            clear sp2 cp20 cp21
            clear sq2 cq20 cq21
            clear su2 cu20 cu21
            clear sv2 cv20 cv21
            replace hB := hB.trans (h1.mono hB.size)
            replace rb := Row.below rb h1
            replace rou := Row.below rou h1
            replace rp2 := Row.below rp2 h1
            replace rq2 := Row.below rq2 h1
            replace ru2 := Row.below ru2 h1
            replace rv2 := Row.below rv2 h1
            clear h1
            obtain ⟨sb, cb0, cb1, cb2, cb3⟩ := Fb _ rb
            obtain ⟨sou, cou0, cou1⟩ := Fou _ rou
            obtain ⟨sp2, cp20, cp21⟩ := Fp2 _ rp2
            obtain ⟨sq2, cq20, cq21⟩ := Fq2 _ rq2
            obtain ⟨su2, cu20, cu21⟩ := Fu2 _ ru2
            obtain ⟨sv2, cv20, cv21⟩ := Fv2 _ rv2
            simp only [setVals, List.setIfInBounds_toArray, List.set_cons_succ, List.set_cons_zero]
            rcases g4.out with g5 | g5
            · go_wp2_with fail
              clear rp2
              clear sp2 cp20 cp21
              clear Fp2
              clear rq2
              clear sq2 cq20 cq21
              clear Fq2
              refine wp_region_vals [.agg #[.string (S u2.num), .string (S (u2.den : Int))], .pointer (some ⟨W18.heap.size, 2, none⟩), .agg #[.string (S b.hi.num), .string (S (b.hi.den : Int))], .int .i64 c3, .bool true, .bool true, .agg #[.string (S ou.num), .string (S (ou.den : Int))], .agg #[.string zn, .string zd], .int .i64 c4, .bool true, .bool true, undef, undef, undef, undef, undef, .bool true, .bool true, .bool true] (by kernel_rfl) (by kernel_rfl) rfl (allVals.cons (qv1 fun X h => Fu2 X (Row.below ru2 h)) (allVals.cons qv0 (allVals.cons (qv1 fun X h => Fb X (Row.below rb h)) (allVals.cons (qv2 fun X h => K3 X (he.env.below (hB.trans (h.mono hB.size)))) (allVals.cons (qvf g3) (allVals.cons qv0 (allVals.cons (qv1 fun X h => Fou X (Row.below rou h)) (allVals.cons (qv2 fun X h => R0 X) (allVals.cons (qv2 fun X h => K4 X (he.env.below (hB.trans (h.mono hB.size)))) (allVals.cons (qvf g5) (allVals.cons qv0 (allVals.cons qv0 (allVals.cons qv0 (allVals.cons qv0 (allVals.cons qv0 (allVals.cons qv0 (allVals.cons qv0 (allVals.cons qv0 (allVals.cons qv0 trivial))))))))))))))))))) ?_
              rintro W h1
              clear sb cb0 cb1 cb2 cb3
              clear sou cou0 cou1
              clear su2 cu20 cu21
              clear sv2 cv20 cv21
              replace hB := hB.trans (h1.mono hB.size)
              replace rb := Row.below rb h1
              replace rou := Row.below rou h1
              replace ru2 := Row.below ru2 h1
              replace rv2 := Row.below rv2 h1
              clear h1
              obtain ⟨sb, cb0, cb1, cb2, cb3⟩ := Fb _ rb
              obtain ⟨sou, cou0, cou1⟩ := Fou _ rou
              obtain ⟨su2, cu20, cu21⟩ := Fu2 _ ru2
              obtain ⟨sv2, cv20, cv21⟩ := Fv2 _ rv2
              simp only [setVals, List.setIfInBounds_toArray, List.set_cons_succ, List.set_cons_zero]
              go_wp2
              go_ret
              exact ⟨rfl, hB⟩
            · rcases Int.lt_or_le c4 0 with g6 | g6
              · clear g5
                have g5 := g6
                go_wp2_with fail
                clear rp2
                clear sp2 cp20 cp21
                clear Fp2
                clear rq2
                clear sq2 cq20 cq21
                clear Fq2
                refine wp_region_vals [.agg #[.string (S u2.num), .string (S (u2.den : Int))], .pointer (some ⟨W18.heap.size, 2, none⟩), .agg #[.string (S b.hi.num), .string (S (b.hi.den : Int))], .int .i64 c3, .bool true, .bool true, .agg #[.string (S ou.num), .string (S (ou.den : Int))], .agg #[.string zn, .string zd], .int .i64 c4, .bool true, .bool true, undef, undef, undef, undef, undef, .bool true, .bool true, .bool true] (by kernel_rfl) (by kernel_rfl) rfl (allVals.cons (qv1 fun X h => Fu2 X (Row.below ru2 h)) (allVals.cons qv0 (allVals.cons (qv1 fun X h => Fb X (Row.below rb h)) (allVals.cons (qv2 fun X h => K3 X (he.env.below (hB.trans (h.mono hB.size)))) (allVals.cons (qvf g3) (allVals.cons qv0 (allVals.cons (qv1 fun X h => Fou X (Row.below rou h)) (allVals.cons (qv2 fun X h => R0 X) (allVals.cons (qv2 fun X h => K4 X (he.env.below (hB.trans (h.mono hB.size)))) (allVals.cons (qvf g5) (allVals.cons qv0 (allVals.cons qv0 (allVals.cons qv0 (allVals.cons qv0 (allVals.cons qv0 (allVals.cons qv0 (allVals.cons qv0 (allVals.cons qv0 (allVals.cons qv0 trivial))))))))))))))))))) ?_
                rintro W h1
                clear sb cb0 cb1 cb2 cb3
                clear sou cou0 cou1
                clear su2 cu20 cu21
                clear sv2 cv20 cv21
                replace hB := hB.trans (h1.mono hB.size)
                replace rb := Row.below rb h1
                replace rou := Row.below rou h1
                replace ru2 := Row.below ru2 h1
                replace rv2 := Row.below rv2 h1
                clear h1
                obtain ⟨sb, cb0, cb1, cb2, cb3⟩ := Fb _ rb
                obtain ⟨sou, cou0, cou1⟩ := Fou _ rou
                obtain ⟨su2, cu20, cu21⟩ := Fu2 _ ru2
                obtain ⟨sv2, cv20, cv21⟩ := Fv2 _ rv2
                simp only [setVals, List.setIfInBounds_toArray, List.set_cons_succ, List.set_cons_zero]
                go_wp2
                go_ret
                exact ⟨rfl, hB⟩
              · have g7 : ¬ c4 < 0 := by omega
                go_wp2_with fail
                clear rp2
                clear sp2 cp20 cp21
                clear Fp2
                clear rq2
                clear sq2 cq20 cq21
                clear Fq2
                refine wp_region_vals [.agg #[.string (S u2.num), .string (S (u2.den : Int))], .pointer (some ⟨W18.heap.size, 2, none⟩), .agg #[.string (S b.hi.num), .string (S (b.hi.den : Int))], .int .i64 c3, .bool true, .bool true, .agg #[.string (S ou.num), .string (S (ou.den : Int))], .agg #[.string zn, .string zd], .int .i64 c4, .bool false, .bool false, .agg #[.string (S v2.num), .string (S (v2.den : Int))], .pointer (some ⟨W18.heap.size, 2, none⟩), .agg #[.string (S b.hi.num), .string (S (b.hi.den : Int))], .int .i64 c5, .bool true, .bool true, .bool true, .bool true] (by kernel_rfl) (by kernel_rfl) rfl (allVals.cons (qv1 fun X h => Fu2 X (Row.below ru2 h)) (allVals.cons qv0 (allVals.cons (qv1 fun X h => Fb X (Row.below rb h)) (allVals.cons (qv2 fun X h => K3 X (he.env.below (hB.trans (h.mono hB.size)))) (allVals.cons (qvf g3) (allVals.cons qv0 (allVals.cons (qv1 fun X h => Fou X (Row.below rou h)) (allVals.cons (qv2 fun X h => R0 X) (allVals.cons (qv2 fun X h => K4 X (he.env.below (hB.trans (h.mono hB.size)))) (allVals.cons (qvf g7) (allVals.cons qv0 (allVals.cons (qv1 fun X h => Fv2 X (Row.below rv2 h)) (allVals.cons qv0 (allVals.cons (qv1 fun X h => Fb X (Row.below rb h)) (allVals.cons (qv2 fun X h => K5 X (he.env.below (hB.trans (h.mono hB.size)))) (allVals.cons (qvf g5) (allVals.cons qv0 (allVals.cons qv0 (allVals.cons qv0 trivial))))))))))))))))))) ?_
                rintro W h1
                clear sb cb0 cb1 cb2 cb3
                clear sou cou0 cou1
                clear su2 cu20 cu21
                clear sv2 cv20 cv21
                replace hB := hB.trans (h1.mono hB.size)
                replace rb := Row.below rb h1
                replace rou := Row.below rou h1
                replace ru2 := Row.below ru2 h1
                replace rv2 := Row.below rv2 h1
                clear h1
                obtain ⟨sb, cb0, cb1, cb2, cb3⟩ := Fb _ rb
                obtain ⟨sou, cou0, cou1⟩ := Fou _ rou
                obtain ⟨su2, cu20, cu21⟩ := Fu2 _ ru2
                obtain ⟨sv2, cv20, cv21⟩ := Fv2 _ rv2
                simp only [setVals, List.setIfInBounds_toArray, List.set_cons_succ, List.set_cons_zero]
                go_wp2
                go_ret
                exact ⟨rfl, hB⟩
end Go.Proofs.YtbgagplpomfkkaaGreatDoor
