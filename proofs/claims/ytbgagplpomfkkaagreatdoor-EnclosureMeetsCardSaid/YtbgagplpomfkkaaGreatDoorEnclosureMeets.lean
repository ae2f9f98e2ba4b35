/-
  EnclosureMeets: the walk.
-/
import Derived.Test.YtbgagplpomfkkaaGreatDoorSane5
import Derived.Test.YtbgagplpomfkkaaGreatDoorECallsFacts
import Derived.Test.YtbgagplpomfkkaaGreatDoorShort
import Derived.Deep.DeepCutAuto
set_option linter.unusedSimpArgs false
set_option linter.unusedVariables false
namespace Go.Proofs.YtbgagplpomfkkaaGreatDoor
open Go Go.RowKit Go.Lib Go.Shelf

theorem hull_lo {a b : Iv} (ha : a.Ok) (hb : b.Ok) : (hullI a b).lo = a.lo ∨ ((hullI a b).lo ≠ a.lo ∧ (hullI a b).lo = b.lo) := by
  have h1 : a.lo ≤ a.hi := ha
  have h2 : b.lo ≤ b.hi := hb
  unfold hullI min4 minQ
  simp only
  split <;> split <;> split <;> grind
theorem hull_hi {a b : Iv} (ha : a.Ok) (hb : b.Ok) : (hullI a b).hi = a.hi ∨ ((hullI a b).hi ≠ a.hi ∧ (hullI a b).hi = b.hi) := by
  have h1 : a.lo ≤ a.hi := ha
  have h2 : b.lo ≤ b.hi := hb
  unfold hullI max4 maxQ
  simp only
  split <;> split <;> split <;> grind
theorem hull_sub_a {a b : Iv} (ha : a.Ok) : a.Sub (hullI a b) := Iv.sub_has (hullI_has (.inl ha.lo)) (hullI_has (.inl ha.hi))
theorem hull_sub_b {a b : Iv} (hb : b.Ok) : b.Sub (hullI a b) := Iv.sub_has (hullI_has (.inr hb.lo)) (hullI_has (.inr hb.hi))
theorem q_ne {p q : Rat} (h : p ≠ q) : ¬ ((S p.num).toList = (S q.num).toList ∧ (S (p.den : Int)).toList = (S (q.den : Int)).toList) := by
  rintro ⟨e1, e2⟩
  refine h (rat_ext ?_ ?_)
  · refine Classical.not_not.1 fun hn => ?_
    have := S_ne hn
    rw [e1] at this
    simp at this
  · refine Classical.not_not.1 fun hn => ?_
    have := S_ne hn
    rw [e2] at this
    simp at this
/-- Meet, both ways: whether there is one, and what is in it. -/
theorem meet_any {a0 : Addr} {a b : Iv} {r : Rat} (da : IDig 3 a) (db : IDig 3 b) (oa : a.Ok) (ob : b.Ok) (dr : QDig 3 r) (w : World) (he : EnvE a0 w) : Calls Tryz.prog 25 #[I a, I b] w fun e w' =>
    ∃ (m0 m1 m2 m3 : ByteArray) (em : Int), ((em = 0 ∧ (decide (cmpQ a.lo b.hi ≤ 0) && decide (cmpQ b.lo a.hi ≤ 0)) = true ∨ em = 50 ∧ (decide (cmpQ a.lo b.hi ≤ 0) && decide (cmpQ b.lo a.hi ≤ 0)) = false)
      ∧ ∀ W, Env W → Calls Tryz.prog 22 #[.agg #[.string m0, .string m1, .string m2, .string m3], Q r] W (BoolOk (decide (a.lo ≤ r ∧ r ≤ a.hi) && decide (b.lo ≤ r ∧ r ≤ b.hi)) W))
      ∧ e = .returned (.tuple #[.agg #[.string m0, .string m1, .string m2, .string m3], .int .i64 em]) ∧ Below w.heap.size w w' := by
  have key : (decide (cmpQ a.lo b.hi ≤ 0) && decide (cmpQ b.lo a.hi ≤ 0)) = decide ((meetI a b).lo ≤ (meetI a b).hi) := by
    rw [← Bool.decide_and]; exact decide_eq_decide.2 (by rw [cmpQ_le, cmpQ_le]; exact (meetI_ok oa ob).symm)
  rw [key, ← Bool.decide_and]
  by_cases ho : (meetI a b).lo ≤ (meetI a b).hi
  · refine (emeet da db oa ob ho (by omega) w he.env).mono ?_
    rintro e w' ⟨v, rfl, rfl, hb⟩
    refine ⟨_, _, _, _, 0, ⟨.inl ⟨rfl, decide_eq_true ho⟩, fun W h => ?_⟩, rfl, hb⟩
    have h1 := econtains (meetI a b) r ((meetI_dig da db).mono (by omega)) (dr.mono (by omega)) W h
    have h2 : decide ((meetI a b).lo ≤ r ∧ r ≤ (meetI a b).hi) = decide ((a.lo ≤ r ∧ r ≤ a.hi) ∧ (b.lo ≤ r ∧ r ≤ b.hi)) := decide_eq_decide.2 meetI_has
    rw [h2] at h1
    exact h1
  · refine (emeet_err da db oa ob ho (by omega) w he).mono ?_
    rintro e w' ⟨rfl, hb⟩
    refine ⟨_, _, _, _, 50, ⟨.inr ⟨rfl, decide_eq_false ho⟩, fun W h => ?_⟩, rfl, hb⟩
    have h2 : decide ((a.lo ≤ r ∧ r ≤ a.hi) ∧ (b.lo ≤ r ∧ r ≤ b.hi)) = false := decide_eq_false fun h => ho (Iv.Has.ok (meetI_has.2 h))
    rw [h2]
    exact econtains_zero r W
set_option maxRecDepth 100000 in
set_option maxHeartbeats 16000000 in
theorem enclosureMeets_any {a0 : Addr} (x0 x1 x2 x3 y0 y1 y2 y3 z0 z1 : Int) (hx : IsInt x0 ∧ IsInt x1 ∧ IsInt x2 ∧ IsInt x3) (hy : IsInt y0 ∧ IsInt y1 ∧ IsInt y2 ∧ IsInt y3) (hz : IsInt z0 ∧ IsInt z1) (w : World) (he : EnvE a0 w) :
    Calls Tryz.prog 5 #[.agg #[.int .i64 x0, .int .i64 x1, .int .i64 x2, .int .i64 x3], .agg #[.int .i64 y0, .int .i64 y1, .int .i64 y2, .int .i64 y3], .agg #[.int .i64 z0, .int .i64 z1]] w (BoolOk true w) := by
  have hB : Below w.heap.size w w := Below.refl _ _
  have MS := fun W (h : EnvE a0 W) => sane5 W h
  have MX := fun W => rmade x0 x1 x2 x3 hx.1 hx.2.1 hx.2.2.1 hx.2.2.2 W
  have MY := fun W => rmade y0 y1 y2 y3 hy.1 hy.2.1 hy.2.2.1 hy.2.2.2 W
  have MZ := fun W => rsmall z0 z1 hz.1 hz.2 W
  unfold BoolOk at MS
  clear hx hy hz
  go_enter Tryz.func5, Tryz.ntmps5
  go_wp2_with fail
  have sB := hB.size
  refine world_cut (fun X => Below w.heap.size w X ∧ Row X w.heap.size (.cells #[.int .i64 x0, .int .i64 x1, .int .i64 x2, .int .i64 x3] 22) ∧ Row X (w.heap.size + 1) (.cells #[.int .i64 y0, .int .i64 y1, .int .i64 y2, .int .i64 y3] 22) ∧ Row X (w.heap.size + 1 + 1) (.cells #[.int .i64 z0, .int .i64 z1] 43)) ⟨BW, RW, RW, RW⟩ ?_
  clear hB sB
  rintro V1 ⟨hB, rx, ry, rz⟩
  have Fx : ∀ X, Row X w.heap.size (.cells #[.int .i64 x0, .int .i64 x1, .int .i64 x2, .int .i64 x3] 22) → (w.heap.size < X.heap.size ∧ X.cell? ⟨w.heap.size, 0, none⟩ = some (.int .i64 x0) ∧ X.cell? ⟨w.heap.size, 1, none⟩ = some (.int .i64 x1) ∧ X.cell? ⟨w.heap.size, 2, none⟩ = some (.int .i64 x2) ∧ X.cell? ⟨w.heap.size, 3, none⟩ = some (.int .i64 x3)) := fun X h => ⟨h.1, Row.cell_at h 0 rfl, Row.cell_at h 1 rfl, Row.cell_at h 2 rfl, Row.cell_at h 3 rfl⟩
  obtain ⟨sx, cx0, cx1, cx2, cx3⟩ := Fx _ rx
  have Fy : ∀ X, Row X (w.heap.size + 1) (.cells #[.int .i64 y0, .int .i64 y1, .int .i64 y2, .int .i64 y3] 22) → (w.heap.size + 1 < X.heap.size ∧ X.cell? ⟨w.heap.size + 1, 0, none⟩ = some (.int .i64 y0) ∧ X.cell? ⟨w.heap.size + 1, 1, none⟩ = some (.int .i64 y1) ∧ X.cell? ⟨w.heap.size + 1, 2, none⟩ = some (.int .i64 y2) ∧ X.cell? ⟨w.heap.size + 1, 3, none⟩ = some (.int .i64 y3)) := fun X h => ⟨h.1, Row.cell_at h 0 rfl, Row.cell_at h 1 rfl, Row.cell_at h 2 rfl, Row.cell_at h 3 rfl⟩
  obtain ⟨sy, cy0, cy1, cy2, cy3⟩ := Fy _ ry
  have Fz : ∀ X, Row X (w.heap.size + 1 + 1) (.cells #[.int .i64 z0, .int .i64 z1] 43) → (w.heap.size + 1 + 1 < X.heap.size ∧ X.cell? ⟨w.heap.size + 1 + 1, 0, none⟩ = some (.int .i64 z0) ∧ X.cell? ⟨w.heap.size + 1 + 1, 1, none⟩ = some (.int .i64 z1)) := fun X h => ⟨h.1, Row.cell_at h 0 rfl, Row.cell_at h 1 rfl⟩
  obtain ⟨sz, cz0, cz1⟩ := Fz _ rz
  refine (MS _ (he.below hB)).mono ?_
  rintro e W2 ⟨rfl, h1⟩
  clear sx cx0 cx1 cx2 cx3
  clear sy cy0 cy1 cy2 cy3
  clear sz cz0 cz1
  replace hB := hB.trans (h1.mono hB.size)
  replace rx := Row.below rx h1
  replace ry := Row.below ry h1
  replace rz := Row.below rz h1
  clear h1
  obtain ⟨sx, cx0, cx1, cx2, cx3⟩ := Fx _ rx
  obtain ⟨sy, cy0, cy1, cy2, cy3⟩ := Fy _ ry
  obtain ⟨sz, cz0, cz1⟩ := Fz _ rz
  go_wp2_with fail
  clear rx
  clear sx cx0 cx1 cx2 cx3
  clear Fx
  refine (MX _).mono ?_
  rintro e W3 ⟨a, ⟨da, oa⟩, rfl, h1⟩
  clear sy cy0 cy1 cy2 cy3
  clear sz cz0 cz1
  replace hB := hB.trans (h1.mono hB.size)
  replace ry := Row.below ry h1
  replace rz := Row.below rz h1
  clear h1
  obtain ⟨sy, cy0, cy1, cy2, cy3⟩ := Fy _ ry
  obtain ⟨sz, cz0, cz1⟩ := Fz _ rz
  unfold I
  go_wp2_with fail
  clear Fy
  have sB := hB.size
  refine world_cut (fun X => Below w.heap.size w X ∧ Row X (w.heap.size + 1 + 1) (.cells #[.int .i64 z0, .int .i64 z1] 43) ∧ Row X W3.heap.size (.cells #[.string (S a.lo.num), .string (S (a.lo.den : Int)), .string (S a.hi.num), .string (S (a.hi.den : Int))] 29)) ⟨BW, RW, RW⟩ ?_
  clear ry
  clear sy cy0 cy1 cy2 cy3
  clear rz
  clear sz cz0 cz1
  clear hB sB
  rintro V4 ⟨hB, rz, ra⟩
  obtain ⟨sz, cz0, cz1⟩ := Fz _ rz
  have Fa : ∀ X, Row X W3.heap.size (.cells #[.string (S a.lo.num), .string (S (a.lo.den : Int)), .string (S a.hi.num), .string (S (a.hi.den : Int))] 29) → (W3.heap.size < X.heap.size ∧ X.cell? ⟨W3.heap.size, 0, none⟩ = some (.string (S a.lo.num)) ∧ X.cell? ⟨W3.heap.size, 1, none⟩ = some (.string (S (a.lo.den : Int))) ∧ X.cell? ⟨W3.heap.size, 2, none⟩ = some (.string (S a.hi.num)) ∧ X.cell? ⟨W3.heap.size, 3, none⟩ = some (.string (S (a.hi.den : Int)))) := fun X h => ⟨h.1, Row.cell_at h 0 rfl, Row.cell_at h 1 rfl, Row.cell_at h 2 rfl, Row.cell_at h 3 rfl⟩
  obtain ⟨sa, ca0, ca1, ca2, ca3⟩ := Fa _ ra
  refine (MY _).mono ?_
  rintro e W5 ⟨b, ⟨db, ob⟩, rfl, h1⟩
  clear sz cz0 cz1
  clear sa ca0 ca1 ca2 ca3
  replace hB := hB.trans (h1.mono hB.size)
  replace rz := Row.below rz h1
  replace ra := Row.below ra h1
  clear h1
  obtain ⟨sz, cz0, cz1⟩ := Fz _ rz
  obtain ⟨sa, ca0, ca1, ca2, ca3⟩ := Fa _ ra
  unfold I
  go_wp2_with fail
  clear Fz
  have sB := hB.size
  refine world_cut (fun X => Below w.heap.size w X ∧ Row X W3.heap.size (.cells #[.string (S a.lo.num), .string (S (a.lo.den : Int)), .string (S a.hi.num), .string (S (a.hi.den : Int))] 29) ∧ Row X W5.heap.size (.cells #[.string (S b.lo.num), .string (S (b.lo.den : Int)), .string (S b.hi.num), .string (S (b.hi.den : Int))] 29)) ⟨BW, RW, RW⟩ ?_
  clear rz
  clear sz cz0 cz1
  clear ra
  clear sa ca0 ca1 ca2 ca3
  clear hB sB
  rintro V6 ⟨hB, ra, rb⟩
  obtain ⟨sa, ca0, ca1, ca2, ca3⟩ := Fa _ ra
  have Fb : ∀ X, Row X W5.heap.size (.cells #[.string (S b.lo.num), .string (S (b.lo.den : Int)), .string (S b.hi.num), .string (S (b.hi.den : Int))] 29) → (W5.heap.size < X.heap.size ∧ X.cell? ⟨W5.heap.size, 0, none⟩ = some (.string (S b.lo.num)) ∧ X.cell? ⟨W5.heap.size, 1, none⟩ = some (.string (S (b.lo.den : Int))) ∧ X.cell? ⟨W5.heap.size, 2, none⟩ = some (.string (S b.hi.num)) ∧ X.cell? ⟨W5.heap.size, 3, none⟩ = some (.string (S (b.hi.den : Int)))) := fun X h => ⟨h.1, Row.cell_at h 0 rfl, Row.cell_at h 1 rfl, Row.cell_at h 2 rfl, Row.cell_at h 3 rfl⟩
  obtain ⟨sb, cb0, cb1, cb2, cb3⟩ := Fb _ rb
  refine (MZ _).mono ?_
  rintro e W7 ⟨r, dr, rfl, h1⟩
  clear sa ca0 ca1 ca2 ca3
  clear sb cb0 cb1 cb2 cb3
  replace hB := hB.trans (h1.mono hB.size)
  replace ra := Row.below ra h1
  replace rb := Row.below rb h1
  clear h1
  obtain ⟨sa, ca0, ca1, ca2, ca3⟩ := Fa _ ra
  obtain ⟨sb, cb0, cb1, cb2, cb3⟩ := Fb _ rb
  unfold Q
  clear MS MX MY MZ
  have dh := hullI_dig da db
  have CH : ∀ W, Env W → Calls Tryz.prog 26 #[.agg #[.string (S a.lo.num), .string (S (a.lo.den : Int)), .string (S a.hi.num), .string (S (a.hi.den : Int))], .agg #[.string (S b.lo.num), .string (S (b.lo.den : Int)), .string (S b.hi.num), .string (S (b.hi.den : Int))]] W (fun e w' => e = .returned (.tuple #[.agg #[.string (S (hullI a b).lo.num), .string (S ((hullI a b).lo.den : Int)), .string (S (hullI a b).hi.num), .string (S ((hullI a b).hi.den : Int))], .int .i64 0]) ∧ Below W.heap.size W w') := fun W h => (ehullI da db oa ob (by omega) W h).mono fun e w' ⟨v, hv, hh⟩ => by subst hv; exact hh
  have WA := fun W (h : Env W) => ewithin a (hullI a b) (da.mono (show 3 ≤ 200 by omega)) (dh.mono (show 3 ≤ 200 by omega)) oa (hull_sub_a oa) W h
  have WB := fun W (h : Env W) => ewithin b (hullI a b) (db.mono (show 3 ≤ 200 by omega)) (dh.mono (show 3 ≤ 200 by omega)) ob (hull_sub_b ob) W h
  have HL := Lib.hid (hull_lo oa ob)
  have HH := Lib.hid (hull_hi oa ob)
  have CA := fun W (h : Env W) => econtains a r (da.mono (show 3 ≤ 200 by omega)) (dr.mono (show 3 ≤ 200 by omega)) W h
  have CB := fun W (h : Env W) => econtains b r (db.mono (show 3 ≤ 200 by omega)) (dr.mono (show 3 ≤ 200 by omega)) W h
  have C1 := fun W (h : Env W) => qcompare a.lo b.hi (da.1.mono (show 3 ≤ 200 by omega)) (db.2.mono (show 3 ≤ 200 by omega)) W h
  have C2 := fun W (h : Env W) => qcompare b.lo a.hi (db.1.mono (show 3 ≤ 200 by omega)) (da.2.mono (show 3 ≤ 200 by omega)) W h
  have ME := fun W (h : EnvE a0 W) => meet_any (a0 := a0) da db oa ob dr W h
  unfold BoolOk at CA CB WA WB ME
  unfold CmpOk at C1 C2
  unfold I at *
  unfold Q at CA CB C1 C2 ME
  clear da db dr dh oa ob
  generalize cmpQ a.lo b.hi = k1 at *
  generalize cmpQ b.lo a.hi = k2 at *
  generalize decide (a.lo ≤ r ∧ r ≤ a.hi) = ca at *
  generalize decide (b.lo ≤ r ∧ r ≤ b.hi) = cb at *
  generalize hbo : (ca && cb) = bo at *
  generalize htt : (decide (k1 ≤ 0) && decide (k2 ≤ 0)) = tt at *
  replace hbo := Lib.hid hbo
  replace htt := Lib.hid htt
  generalize hg : S a.lo.num = aln at *
  have Galn := Lib.hid hg
  clear hg
  generalize hg : S (a.lo.den : Int) = ald at *
  have Gald := Lib.hid hg
  clear hg
  generalize hg : S a.hi.num = ahn at *
  have Gahn := Lib.hid hg
  clear hg
  generalize hg : S (a.hi.den : Int) = ahd at *
  have Gahd := Lib.hid hg
  clear hg
  generalize hg : S b.lo.num = bln at *
  have Gbln := Lib.hid hg
  clear hg
  generalize hg : S (b.lo.den : Int) = bld at *
  have Gbld := Lib.hid hg
  clear hg
  generalize hg : S b.hi.num = bhn at *
  have Gbhn := Lib.hid hg
  clear hg
  generalize hg : S (b.hi.den : Int) = bhd at *
  have Gbhd := Lib.hid hg
  clear hg
  generalize hg : S r.num = rn at *
  clear hg
  generalize hg : S (r.den : Int) = rd at *
  clear hg
  generalize hg : S (hullI a b).lo.num = hln at *
  have Ghln := Lib.hid hg
  clear hg
  generalize hg : S ((hullI a b).lo.den : Int) = hld at *
  have Ghld := Lib.hid hg
  clear hg
  generalize hg : S (hullI a b).hi.num = hhn at *
  have Ghhn := Lib.hid hg
  clear hg
  generalize hg : S ((hullI a b).hi.den : Int) = hhd at *
  have Ghhd := Lib.hid hg
  clear hg
  go_wp2_with fail
  have sB := hB.size
  refine world_cut (fun X => Below w.heap.size w X ∧ Row X W3.heap.size (.cells #[.string aln, .string ald, .string ahn, .string ahd] 29) ∧ Row X W5.heap.size (.cells #[.string bln, .string bld, .string bhn, .string bhd] 29) ∧ Row X W7.heap.size (.cells #[.string rn, .string rd] 26)) ⟨BW, RW, RW, RW⟩ ?_
  clear ra
  clear sa ca0 ca1 ca2 ca3
  clear rb
  clear sb cb0 cb1 cb2 cb3
  clear hB sB
  rintro V8 ⟨hB, ra, rb, rr⟩
  clear Fa
  have Fa : ∀ X, Row X W3.heap.size (.cells #[.string aln, .string ald, .string ahn, .string ahd] 29) → (W3.heap.size < X.heap.size ∧ X.cell? ⟨W3.heap.size, 0, none⟩ = some (.string aln) ∧ X.cell? ⟨W3.heap.size, 1, none⟩ = some (.string ald) ∧ X.cell? ⟨W3.heap.size, 2, none⟩ = some (.string ahn) ∧ X.cell? ⟨W3.heap.size, 3, none⟩ = some (.string ahd)) := fun X h => ⟨h.1, Row.cell_at h 0 rfl, Row.cell_at h 1 rfl, Row.cell_at h 2 rfl, Row.cell_at h 3 rfl⟩
  obtain ⟨sa, ca0, ca1, ca2, ca3⟩ := Fa _ ra
  clear Fb
  have Fb : ∀ X, Row X W5.heap.size (.cells #[.string bln, .string bld, .string bhn, .string bhd] 29) → (W5.heap.size < X.heap.size ∧ X.cell? ⟨W5.heap.size, 0, none⟩ = some (.string bln) ∧ X.cell? ⟨W5.heap.size, 1, none⟩ = some (.string bld) ∧ X.cell? ⟨W5.heap.size, 2, none⟩ = some (.string bhn) ∧ X.cell? ⟨W5.heap.size, 3, none⟩ = some (.string bhd)) := fun X h => ⟨h.1, Row.cell_at h 0 rfl, Row.cell_at h 1 rfl, Row.cell_at h 2 rfl, Row.cell_at h 3 rfl⟩
  obtain ⟨sb, cb0, cb1, cb2, cb3⟩ := Fb _ rb
  have Fr : ∀ X, Row X W7.heap.size (.cells #[.string rn, .string rd] 26) → (W7.heap.size < X.heap.size ∧ X.cell? ⟨W7.heap.size, 0, none⟩ = some (.string rn) ∧ X.cell? ⟨W7.heap.size, 1, none⟩ = some (.string rd)) := fun X h => ⟨h.1, Row.cell_at h 0 rfl, Row.cell_at h 1 rfl⟩
  obtain ⟨sr, cr0, cr1⟩ := Fr _ rr
  refine (ME _ (he.below hB)).mono ?_
  rintro e W9 ⟨m0, m1, m2, m3, em, ⟨hem, CM⟩, rfl, h1⟩
  clear sa ca0 ca1 ca2 ca3
  clear sb cb0 cb1 cb2 cb3
  clear sr cr0 cr1
  replace hB := hB.trans (h1.mono hB.size)
  replace ra := Row.below ra h1
  replace rb := Row.below rb h1
  replace rr := Row.below rr h1
  clear h1
  obtain ⟨sa, ca0, ca1, ca2, ca3⟩ := Fa _ ra
  obtain ⟨sb, cb0, cb1, cb2, cb3⟩ := Fb _ rb
  obtain ⟨sr, cr0, cr1⟩ := Fr _ rr
  go_wp2_with fail
  have sB := hB.size
  refine world_cut (fun X => Below w.heap.size w X ∧ Row X W3.heap.size (.cells #[.string aln, .string ald, .string ahn, .string ahd] 29) ∧ Row X W5.heap.size (.cells #[.string bln, .string bld, .string bhn, .string bhd] 29) ∧ Row X W7.heap.size (.cells #[.string rn, .string rd] 26) ∧ Row X W9.heap.size (.cells #[.string m0, .string m1, .string m2, .string m3] 29)) ⟨BW, RW, RW, RW, RW⟩ ?_
  clear ra
  clear sa ca0 ca1 ca2 ca3
  clear rb
  clear sb cb0 cb1 cb2 cb3
  clear rr
  clear sr cr0 cr1
  clear hB sB
  rintro V10 ⟨hB, ra, rb, rr, rm⟩
  obtain ⟨sa, ca0, ca1, ca2, ca3⟩ := Fa _ ra
  obtain ⟨sb, cb0, cb1, cb2, cb3⟩ := Fb _ rb
  obtain ⟨sr, cr0, cr1⟩ := Fr _ rr
  have Fm : ∀ X, Row X W9.heap.size (.cells #[.string m0, .string m1, .string m2, .string m3] 29) → (W9.heap.size < X.heap.size ∧ X.cell? ⟨W9.heap.size, 0, none⟩ = some (.string m0) ∧ X.cell? ⟨W9.heap.size, 1, none⟩ = some (.string m1) ∧ X.cell? ⟨W9.heap.size, 2, none⟩ = some (.string m2) ∧ X.cell? ⟨W9.heap.size, 3, none⟩ = some (.string m3)) := fun X h => ⟨h.1, Row.cell_at h 0 rfl, Row.cell_at h 1 rfl, Row.cell_at h 2 rfl, Row.cell_at h 3 rfl⟩
  obtain ⟨sm, cm0, cm1, cm2, cm3⟩ := Fm _ rm
  refine (CH _ (he.env.below hB)).mono ?_
  rintro e W11 ⟨rfl, h1⟩
  clear sa ca0 ca1 ca2 ca3
  clear sb cb0 cb1 cb2 cb3
  clear sr cr0 cr1
  clear sm cm0 cm1 cm2 cm3
  replace hB := hB.trans (h1.mono hB.size)
  replace ra := Row.below ra h1
  replace rb := Row.below rb h1
  replace rr := Row.below rr h1
  replace rm := Row.below rm h1
  clear h1
  obtain ⟨sa, ca0, ca1, ca2, ca3⟩ := Fa _ ra
  obtain ⟨sb, cb0, cb1, cb2, cb3⟩ := Fb _ rb
  obtain ⟨sr, cr0, cr1⟩ := Fr _ rr
  obtain ⟨sm, cm0, cm1, cm2, cm3⟩ := Fm _ rm
  clear ME CH
  go_upto_region 7 with fail
  have sB := hB.size
  refine wp_cut (fun X => Below w.heap.size w X ∧ Row X W3.heap.size (.cells #[.string aln, .string ald, .string ahn, .string ahd] 29) ∧ Row X W5.heap.size (.cells #[.string bln, .string bld, .string bhn, .string bhd] 29) ∧ Row X W7.heap.size (.cells #[.string rn, .string rd] 26) ∧ Row X W9.heap.size (.cells #[.string m0, .string m1, .string m2, .string m3] 29) ∧ Row X W11.heap.size (.cells #[.string hln, .string hld, .string hhn, .string hhd] 29)) ⟨BW, RW, RW, RW, RW, RW⟩ ?_
  clear ra
  clear sa ca0 ca1 ca2 ca3
  clear rb
  clear sb cb0 cb1 cb2 cb3
  clear rr
  clear sr cr0 cr1
  clear rm
  clear sm cm0 cm1 cm2 cm3
  clear hB sB
  rintro V12 ⟨hB, ra, rb, rr, rm, rh⟩
  obtain ⟨sa, ca0, ca1, ca2, ca3⟩ := Fa _ ra
  obtain ⟨sb, cb0, cb1, cb2, cb3⟩ := Fb _ rb
  obtain ⟨sr, cr0, cr1⟩ := Fr _ rr
  obtain ⟨sm, cm0, cm1, cm2, cm3⟩ := Fm _ rm
  have Fh : ∀ X, Row X W11.heap.size (.cells #[.string hln, .string hld, .string hhn, .string hhd] 29) → (W11.heap.size < X.heap.size ∧ X.cell? ⟨W11.heap.size, 0, none⟩ = some (.string hln) ∧ X.cell? ⟨W11.heap.size, 1, none⟩ = some (.string hld) ∧ X.cell? ⟨W11.heap.size, 2, none⟩ = some (.string hhn) ∧ X.cell? ⟨W11.heap.size, 3, none⟩ = some (.string hhd)) := fun X h => ⟨h.1, Row.cell_at h 0 rfl, Row.cell_at h 1 rfl, Row.cell_at h 2 rfl, Row.cell_at h 3 rfl⟩
  obtain ⟨sh, ch0, ch1, ch2, ch3⟩ := Fh _ rh
  go_cut [15] (fun s15 W => s15 = .bool bo ∧ Below w.heap.size w W ∧ Row W W3.heap.size (.cells #[.string aln, .string ald, .string ahn, .string ahd] 29) ∧ Row W W5.heap.size (.cells #[.string bln, .string bld, .string bhn, .string bhd] 29) ∧ Row W W7.heap.size (.cells #[.string rn, .string rd] 26) ∧ Row W W9.heap.size (.cells #[.string m0, .string m1, .string m2, .string m3] 29) ∧ Row W W11.heap.size (.cells #[.string hln, .string hld, .string hhn, .string hhd] 29))
  case first =>
    rcases ca with _ | _
    · clear CB
      go_wp2_with fail
      refine (CA _ (he.env.below hB)).mono ?_
      rintro e W13 ⟨rfl, h1⟩
      clear sa ca0 ca1 ca2 ca3
      clear sb cb0 cb1 cb2 cb3
      clear sr cr0 cr1
      clear sm cm0 cm1 cm2 cm3
      clear sh ch0 ch1 ch2 ch3
      replace hB := hB.trans (h1.mono hB.size)
      replace ra := Row.below ra h1
      replace rb := Row.below rb h1
      replace rr := Row.below rr h1
      replace rm := Row.below rm h1
      replace rh := Row.below rh h1
      clear h1
      obtain ⟨sa, ca0, ca1, ca2, ca3⟩ := Fa _ ra
      obtain ⟨sb, cb0, cb1, cb2, cb3⟩ := Fb _ rb
      obtain ⟨sr, cr0, cr1⟩ := Fr _ rr
      obtain ⟨sm, cm0, cm1, cm2, cm3⟩ := Fm _ rm
      obtain ⟨sh, ch0, ch1, ch2, ch3⟩ := Fh _ rh
      go_wp2
      go_meet
      case rel => exact ⟨congrArg Value.bool hbo.out, BW, RW, RW, RW, RW, RW⟩
    · go_wp2_with fail
      refine (CA _ (he.env.below hB)).mono ?_
      rintro e W13 ⟨rfl, h1⟩
      clear sa ca0 ca1 ca2 ca3
      clear sb cb0 cb1 cb2 cb3
      clear sr cr0 cr1
      clear sm cm0 cm1 cm2 cm3
      clear sh ch0 ch1 ch2 ch3
      replace hB := hB.trans (h1.mono hB.size)
      replace ra := Row.below ra h1
      replace rb := Row.below rb h1
      replace rr := Row.below rr h1
      replace rm := Row.below rm h1
      replace rh := Row.below rh h1
      clear h1
      obtain ⟨sa, ca0, ca1, ca2, ca3⟩ := Fa _ ra
      obtain ⟨sb, cb0, cb1, cb2, cb3⟩ := Fb _ rb
      obtain ⟨sr, cr0, cr1⟩ := Fr _ rr
      obtain ⟨sm, cm0, cm1, cm2, cm3⟩ := Fm _ rm
      obtain ⟨sh, ch0, ch1, ch2, ch3⟩ := Fh _ rh
      go_wp2_with fail
      refine (CB _ (he.env.below hB)).mono ?_
      rintro e W14 ⟨rfl, h1⟩
      clear sa ca0 ca1 ca2 ca3
      clear sb cb0 cb1 cb2 cb3
      clear sr cr0 cr1
      clear sm cm0 cm1 cm2 cm3
      clear sh ch0 ch1 ch2 ch3
      replace hB := hB.trans (h1.mono hB.size)
      replace ra := Row.below ra h1
      replace rb := Row.below rb h1
      replace rr := Row.below rr h1
      replace rm := Row.below rm h1
      replace rh := Row.below rh h1
      clear h1
      obtain ⟨sa, ca0, ca1, ca2, ca3⟩ := Fa _ ra
      obtain ⟨sb, cb0, cb1, cb2, cb3⟩ := Fb _ rb
      obtain ⟨sr, cr0, cr1⟩ := Fr _ rr
      obtain ⟨sm, cm0, cm1, cm2, cm3⟩ := Fm _ rm
      obtain ⟨sh, ch0, ch1, ch2, ch3⟩ := Fh _ rh
      go_wp2
      go_meet
      case rel => exact ⟨congrArg Value.bool hbo.out, BW, RW, RW, RW, RW, RW⟩
  case rest =>
    clear hB ra rb rr rm rh
    clear sa ca0 ca1 ca2 ca3
    clear sb cb0 cb1 cb2 cb3
    clear sr cr0 cr1
    clear sm cm0 cm1 cm2 cm3
    clear sh ch0 ch1 ch2 ch3
    obtain ⟨rfl, hB, ra, rb, rr, rm, rh⟩ := hcut
    have sB := hB.size
    clear sB
    obtain ⟨sa, ca0, ca1, ca2, ca3⟩ := Fa _ ra
    obtain ⟨sb, cb0, cb1, cb2, cb3⟩ := Fb _ rb
    obtain ⟨sr, cr0, cr1⟩ := Fr _ rr
    obtain ⟨sm, cm0, cm1, cm2, cm3⟩ := Fm _ rm
    obtain ⟨sh, ch0, ch1, ch2, ch3⟩ := Fh _ rh
    clear CA CB hbo
    go_upto_region 8 with fail
    go_cut [16] (fun s16 W => s16 = .bool tt ∧ Below w.heap.size w W ∧ Row W W3.heap.size (.cells #[.string aln, .string ald, .string ahn, .string ahd] 29) ∧ Row W W5.heap.size (.cells #[.string bln, .string bld, .string bhn, .string bhd] 29) ∧ Row W W7.heap.size (.cells #[.string rn, .string rd] 26) ∧ Row W W9.heap.size (.cells #[.string m0, .string m1, .string m2, .string m3] 29) ∧ Row W W11.heap.size (.cells #[.string hln, .string hld, .string hhn, .string hhd] 29))
    case first =>
      rcases Int.lt_or_le 0 k1 with g1 | g1
      · go_wp2_with fail
        refine (C1 _ (he.env.below hB)).mono ?_
        rintro e W14 ⟨rfl, h1⟩
        clear sa ca0 ca1 ca2 ca3
        clear sb cb0 cb1 cb2 cb3
        clear sr cr0 cr1
        clear sm cm0 cm1 cm2 cm3
        clear sh ch0 ch1 ch2 ch3
        replace hB := hB.trans (h1.mono hB.size)
        replace ra := Row.below ra h1
        replace rb := Row.below rb h1
        replace rr := Row.below rr h1
        replace rm := Row.below rm h1
        replace rh := Row.below rh h1
        clear h1
        obtain ⟨sa, ca0, ca1, ca2, ca3⟩ := Fa _ ra
        obtain ⟨sb, cb0, cb1, cb2, cb3⟩ := Fb _ rb
        obtain ⟨sr, cr0, cr1⟩ := Fr _ rr
        obtain ⟨sm, cm0, cm1, cm2, cm3⟩ := Fm _ rm
        obtain ⟨sh, ch0, ch1, ch2, ch3⟩ := Fh _ rh
        go_wp2
        go_meet
        case rel => exact ⟨by rw [← htt.out, decide_eq_false (show ¬ k1 ≤ 0 by omega)]; rfl, BW, RW, RW, RW, RW, RW⟩
      · go_wp2_with fail
        refine (C1 _ (he.env.below hB)).mono ?_
        rintro e W14 ⟨rfl, h1⟩
        clear sa ca0 ca1 ca2 ca3
        clear sb cb0 cb1 cb2 cb3
        clear sr cr0 cr1
        clear sm cm0 cm1 cm2 cm3
        clear sh ch0 ch1 ch2 ch3
        replace hB := hB.trans (h1.mono hB.size)
        replace ra := Row.below ra h1
        replace rb := Row.below rb h1
        replace rr := Row.below rr h1
        replace rm := Row.below rm h1
        replace rh := Row.below rh h1
        clear h1
        obtain ⟨sa, ca0, ca1, ca2, ca3⟩ := Fa _ ra
        obtain ⟨sb, cb0, cb1, cb2, cb3⟩ := Fb _ rb
        obtain ⟨sr, cr0, cr1⟩ := Fr _ rr
        obtain ⟨sm, cm0, cm1, cm2, cm3⟩ := Fm _ rm
        obtain ⟨sh, ch0, ch1, ch2, ch3⟩ := Fh _ rh
        go_wp2_with fail
        refine (C2 _ (he.env.below hB)).mono ?_
        rintro e W15 ⟨rfl, h1⟩
        clear sa ca0 ca1 ca2 ca3
        clear sb cb0 cb1 cb2 cb3
        clear sr cr0 cr1
        clear sm cm0 cm1 cm2 cm3
        clear sh ch0 ch1 ch2 ch3
        replace hB := hB.trans (h1.mono hB.size)
        replace ra := Row.below ra h1
        replace rb := Row.below rb h1
        replace rr := Row.below rr h1
        replace rm := Row.below rm h1
        replace rh := Row.below rh h1
        clear h1
        obtain ⟨sa, ca0, ca1, ca2, ca3⟩ := Fa _ ra
        obtain ⟨sb, cb0, cb1, cb2, cb3⟩ := Fb _ rb
        obtain ⟨sr, cr0, cr1⟩ := Fr _ rr
        obtain ⟨sm, cm0, cm1, cm2, cm3⟩ := Fm _ rm
        obtain ⟨sh, ch0, ch1, ch2, ch3⟩ := Fh _ rh
        go_wp2
        go_meet
        case rel => exact ⟨by rw [← htt.out, decide_eq_true g1]; first | rfl | simp, BW, RW, RW, RW, RW, RW⟩
    case rest =>
      clear hB ra rb rr rm rh
      clear sa ca0 ca1 ca2 ca3
      clear sb cb0 cb1 cb2 cb3
      clear sr cr0 cr1
      clear sm cm0 cm1 cm2 cm3
      clear sh ch0 ch1 ch2 ch3
      obtain ⟨rfl, hB, ra, rb, rr, rm, rh⟩ := hcut
      have sB := hB.size
      clear sB
      obtain ⟨sa, ca0, ca1, ca2, ca3⟩ := Fa _ ra
      obtain ⟨sb, cb0, cb1, cb2, cb3⟩ := Fb _ rb
      obtain ⟨sr, cr0, cr1⟩ := Fr _ rr
      obtain ⟨sm, cm0, cm1, cm2, cm3⟩ := Fm _ rm
      obtain ⟨sh, ch0, ch1, ch2, ch3⟩ := Fh _ rh
      clear C1 C2 htt
      go_upto_region 9 with fail
      go_cut [99] (fun s99 W => s99 = .bool false ∧ Below w.heap.size w W ∧ Row W W3.heap.size (.cells #[.string aln, .string ald, .string ahn, .string ahd] 29) ∧ Row W W5.heap.size (.cells #[.string bln, .string bld, .string bhn, .string bhd] 29) ∧ Row W W7.heap.size (.cells #[.string rn, .string rd] 26) ∧ Row W W9.heap.size (.cells #[.string m0, .string m1, .string m2, .string m3] 29) ∧ Row W W11.heap.size (.cells #[.string hln, .string hld, .string hhn, .string hhd] 29))
      case first =>
        rcases HL.out with elo | ⟨nlo, elo⟩
        · have ELO := Lib.hid elo
          clear elo
          obtain ⟨ql1, ql2⟩ : hln = aln ∧ hld = ald := ⟨by rw [← Ghln.out, ← Galn.out, ELO.out], by rw [← Ghld.out, ← Gald.out, ELO.out]⟩
          rcases HH.out with ehi | ⟨nhi, ehi⟩
          · have EHI := Lib.hid ehi
            clear ehi
            obtain ⟨qh1, qh2⟩ : hhn = ahn ∧ hhd = ahd := ⟨by rw [← Ghhn.out, ← Gahn.out, EHI.out], by rw [← Ghhd.out, ← Gahd.out, EHI.out]⟩
            clear HL HH ELO EHI
            clear Galn Gald Gahn Gahd Gbln Gbld Gbhn Gbhd Ghln Ghld Ghhn Ghhd
            have QL := Lib.hid (And.intro ql1 ql2)
            have QH := Lib.hid (And.intro qh1 qh2)
            clear ql1 ql2 qh1 qh2
            go_upto_region 9 with fail
            refine wp_region_vals_seq [.int .i64 0, .bool false, .bool false, .agg #[.string aln, .string ald, .string ahn, .string ahd], .agg #[.string hln, .string hld, .string hhn, .string hhd], .bool true, .bool false, .bool false, .bool false, .agg #[.string bln, .string bld, .string bhn, .string bhd], .agg #[.string hln, .string hld, .string hhn, .string hhd], .bool true, .bool false, .bool false, .bool false, .pointer (some ⟨W11.heap.size, 0, none⟩), .agg #[.string hln, .string hld], .pointer (some ⟨W3.heap.size, 0, none⟩), .agg #[.string aln, .string ald], .bool false, .bool false, undef, undef, undef, undef, undef, .bool false, .bool false, .bool false, .pointer (some ⟨W11.heap.size, 2, none⟩), .agg #[.string hhn, .string hhd], .pointer (some ⟨W3.heap.size, 2, none⟩), .agg #[.string ahn, .string ahd], .bool false, .bool false, undef, undef, undef, undef, undef, .bool false, .bool false] (by kernel_rfl) rfl (allVals.cons qv0 (allVals.cons qv0 (allVals.cons qv0 (allVals.cons (qv1 fun X h => Fa X (Row.below ra h)) (allVals.cons (qv1 fun X h => Fh X (Row.below rh h)) (allVals.cons (qv2 fun X h => WA X (he.env.below (hB.trans (h.mono hB.size)))) (allVals.cons qv0 (allVals.cons qv0 (allVals.cons qv0 (allVals.cons (qv1 fun X h => Fb X (Row.below rb h)) (allVals.cons (qv1 fun X h => Fh X (Row.below rh h)) (allVals.cons (qv2 fun X h => WB X (he.env.below (hB.trans (h.mono hB.size)))) (allVals.cons qv0 (allVals.cons qv0 (allVals.cons qv0 (allVals.cons qv0 (allVals.cons (qv1 fun X h => Fh X (Row.below rh h)) (allVals.cons qv0 (allVals.cons (qv1 fun X h => Fa X (Row.below ra h)) (allVals.cons (qvf QL.out) (allVals.cons qv0 (allVals.cons qv0 (allVals.cons qv0 (allVals.cons qv0 (allVals.cons qv0 (allVals.cons qv0 (allVals.cons qv0 (allVals.cons qv0 (allVals.cons qv0 (allVals.cons qv0 (allVals.cons (qv1 fun X h => Fh X (Row.below rh h)) (allVals.cons qv0 (allVals.cons (qv1 fun X h => Fa X (Row.below ra h)) (allVals.cons (qvf QH.out) (allVals.cons qv0 (allVals.cons qv0 (allVals.cons qv0 (allVals.cons qv0 (allVals.cons qv0 (allVals.cons qv0 (allVals.cons qv0 (allVals.cons qv0 trivial)))))))))))))))))))))))))))))))))))))))))) ?_
            rintro W h1
            clear sa ca0 ca1 ca2 ca3
            clear sb cb0 cb1 cb2 cb3
            clear sr cr0 cr1
            clear sm cm0 cm1 cm2 cm3
            clear sh ch0 ch1 ch2 ch3
            replace hB := hB.trans (h1.mono hB.size)
            replace ra := Row.below ra h1
            replace rb := Row.below rb h1
            replace rr := Row.below rr h1
            replace rm := Row.below rm h1
            replace rh := Row.below rh h1
            clear h1
            obtain ⟨sa, ca0, ca1, ca2, ca3⟩ := Fa _ ra
            obtain ⟨sb, cb0, cb1, cb2, cb3⟩ := Fb _ rb
            obtain ⟨sr, cr0, cr1⟩ := Fr _ rr
            obtain ⟨sm, cm0, cm1, cm2, cm3⟩ := Fm _ rm
            obtain ⟨sh, ch0, ch1, ch2, ch3⟩ := Fh _ rh
            simp only [setVals, List.setIfInBounds_toArray, List.set_cons_succ, List.set_cons_zero]
            go_wp2
            go_meet
            case rel => exact ⟨rfl, BW, RW, RW, RW, RW, RW⟩
          · have EHI := Lib.hid ehi
            clear ehi
            have n2 := q_ne nhi
            rw [Ghhn.out, Ghhd.out, Gahn.out, Gahd.out] at n2
            clear nhi
            obtain ⟨qh1, qh2⟩ : hhn = bhn ∧ hhd = bhd := ⟨by rw [← Ghhn.out, ← Gbhn.out, EHI.out], by rw [← Ghhd.out, ← Gbhd.out, EHI.out]⟩
            clear HL HH ELO EHI
            clear Galn Gald Gahn Gahd Gbln Gbld Gbhn Gbhd Ghln Ghld Ghhn Ghhd
            have N2 := Lib.hid n2
            clear n2
            have QL := Lib.hid (And.intro ql1 ql2)
            have QH := Lib.hid (And.intro qh1 qh2)
            clear ql1 ql2 qh1 qh2
            go_upto_region 9 with fail
            refine wp_region_vals_seq [.int .i64 0, .bool false, .bool false, .agg #[.string aln, .string ald, .string ahn, .string ahd], .agg #[.string hln, .string hld, .string hhn, .string hhd], .bool true, .bool false, .bool false, .bool false, .agg #[.string bln, .string bld, .string bhn, .string bhd], .agg #[.string hln, .string hld, .string hhn, .string hhd], .bool true, .bool false, .bool false, .bool false, .pointer (some ⟨W11.heap.size, 0, none⟩), .agg #[.string hln, .string hld], .pointer (some ⟨W3.heap.size, 0, none⟩), .agg #[.string aln, .string ald], .bool false, .bool false, undef, undef, undef, undef, undef, .bool false, .bool false, .bool false, .pointer (some ⟨W11.heap.size, 2, none⟩), .agg #[.string hhn, .string hhd], .pointer (some ⟨W3.heap.size, 2, none⟩), .agg #[.string ahn, .string ahd], .bool true, .bool true, .pointer (some ⟨W11.heap.size, 2, none⟩), .agg #[.string hhn, .string hhd], .pointer (some ⟨W5.heap.size, 2, none⟩), .agg #[.string bhn, .string bhd], .bool false, .bool false, .bool false] (by kernel_rfl) rfl (allVals.cons qv0 (allVals.cons qv0 (allVals.cons qv0 (allVals.cons (qv1 fun X h => Fa X (Row.below ra h)) (allVals.cons (qv1 fun X h => Fh X (Row.below rh h)) (allVals.cons (qv2 fun X h => WA X (he.env.below (hB.trans (h.mono hB.size)))) (allVals.cons qv0 (allVals.cons qv0 (allVals.cons qv0 (allVals.cons (qv1 fun X h => Fb X (Row.below rb h)) (allVals.cons (qv1 fun X h => Fh X (Row.below rh h)) (allVals.cons (qv2 fun X h => WB X (he.env.below (hB.trans (h.mono hB.size)))) (allVals.cons qv0 (allVals.cons qv0 (allVals.cons qv0 (allVals.cons qv0 (allVals.cons (qv1 fun X h => Fh X (Row.below rh h)) (allVals.cons qv0 (allVals.cons (qv1 fun X h => Fa X (Row.below ra h)) (allVals.cons (qvf QL.out) (allVals.cons qv0 (allVals.cons qv0 (allVals.cons qv0 (allVals.cons qv0 (allVals.cons qv0 (allVals.cons qv0 (allVals.cons qv0 (allVals.cons qv0 (allVals.cons qv0 (allVals.cons qv0 (allVals.cons (qv1 fun X h => Fh X (Row.below rh h)) (allVals.cons qv0 (allVals.cons (qv1 fun X h => Fa X (Row.below ra h)) (allVals.cons (qvs N2.out) (allVals.cons qv0 (allVals.cons qv0 (allVals.cons (qv1 fun X h => Fh X (Row.below rh h)) (allVals.cons qv0 (allVals.cons (qv1 fun X h => Fb X (Row.below rb h)) (allVals.cons (qvf QH.out) (allVals.cons qv0 (allVals.cons qv0 trivial)))))))))))))))))))))))))))))))))))))))))) ?_
            rintro W h1
            clear sa ca0 ca1 ca2 ca3
            clear sb cb0 cb1 cb2 cb3
            clear sr cr0 cr1
            clear sm cm0 cm1 cm2 cm3
            clear sh ch0 ch1 ch2 ch3
            replace hB := hB.trans (h1.mono hB.size)
            replace ra := Row.below ra h1
            replace rb := Row.below rb h1
            replace rr := Row.below rr h1
            replace rm := Row.below rm h1
            replace rh := Row.below rh h1
            clear h1
            obtain ⟨sa, ca0, ca1, ca2, ca3⟩ := Fa _ ra
            obtain ⟨sb, cb0, cb1, cb2, cb3⟩ := Fb _ rb
            obtain ⟨sr, cr0, cr1⟩ := Fr _ rr
            obtain ⟨sm, cm0, cm1, cm2, cm3⟩ := Fm _ rm
            obtain ⟨sh, ch0, ch1, ch2, ch3⟩ := Fh _ rh
            simp only [setVals, List.setIfInBounds_toArray, List.set_cons_succ, List.set_cons_zero]
            go_wp2
            go_meet
            case rel => exact ⟨rfl, BW, RW, RW, RW, RW, RW⟩
        · have ELO := Lib.hid elo
          clear elo
          have n1 := q_ne nlo
          rw [Ghln.out, Ghld.out, Galn.out, Gald.out] at n1
          clear nlo
          obtain ⟨ql1, ql2⟩ : hln = bln ∧ hld = bld := ⟨by rw [← Ghln.out, ← Gbln.out, ELO.out], by rw [← Ghld.out, ← Gbld.out, ELO.out]⟩
          rcases HH.out with ehi | ⟨nhi, ehi⟩
          · have EHI := Lib.hid ehi
            clear ehi
            obtain ⟨qh1, qh2⟩ : hhn = ahn ∧ hhd = ahd := ⟨by rw [← Ghhn.out, ← Gahn.out, EHI.out], by rw [← Ghhd.out, ← Gahd.out, EHI.out]⟩
            clear HL HH ELO EHI
            clear Galn Gald Gahn Gahd Gbln Gbld Gbhn Gbhd Ghln Ghld Ghhn Ghhd
            have N1 := Lib.hid n1
            clear n1
            have QL := Lib.hid (And.intro ql1 ql2)
            have QH := Lib.hid (And.intro qh1 qh2)
            clear ql1 ql2 qh1 qh2
            go_upto_region 9 with fail
            refine wp_region_vals_seq [.int .i64 0, .bool false, .bool false, .agg #[.string aln, .string ald, .string ahn, .string ahd], .agg #[.string hln, .string hld, .string hhn, .string hhd], .bool true, .bool false, .bool false, .bool false, .agg #[.string bln, .string bld, .string bhn, .string bhd], .agg #[.string hln, .string hld, .string hhn, .string hhd], .bool true, .bool false, .bool false, .bool false, .pointer (some ⟨W11.heap.size, 0, none⟩), .agg #[.string hln, .string hld], .pointer (some ⟨W3.heap.size, 0, none⟩), .agg #[.string aln, .string ald], .bool true, .bool true, .pointer (some ⟨W11.heap.size, 0, none⟩), .agg #[.string hln, .string hld], .pointer (some ⟨W5.heap.size, 0, none⟩), .agg #[.string bln, .string bld], .bool false, .bool false, .bool false, .bool false, .pointer (some ⟨W11.heap.size, 2, none⟩), .agg #[.string hhn, .string hhd], .pointer (some ⟨W3.heap.size, 2, none⟩), .agg #[.string ahn, .string ahd], .bool false, .bool false, undef, undef, undef, undef, undef, .bool false, .bool false] (by kernel_rfl) rfl (allVals.cons qv0 (allVals.cons qv0 (allVals.cons qv0 (allVals.cons (qv1 fun X h => Fa X (Row.below ra h)) (allVals.cons (qv1 fun X h => Fh X (Row.below rh h)) (allVals.cons (qv2 fun X h => WA X (he.env.below (hB.trans (h.mono hB.size)))) (allVals.cons qv0 (allVals.cons qv0 (allVals.cons qv0 (allVals.cons (qv1 fun X h => Fb X (Row.below rb h)) (allVals.cons (qv1 fun X h => Fh X (Row.below rh h)) (allVals.cons (qv2 fun X h => WB X (he.env.below (hB.trans (h.mono hB.size)))) (allVals.cons qv0 (allVals.cons qv0 (allVals.cons qv0 (allVals.cons qv0 (allVals.cons (qv1 fun X h => Fh X (Row.below rh h)) (allVals.cons qv0 (allVals.cons (qv1 fun X h => Fa X (Row.below ra h)) (allVals.cons (qvs N1.out) (allVals.cons qv0 (allVals.cons qv0 (allVals.cons (qv1 fun X h => Fh X (Row.below rh h)) (allVals.cons qv0 (allVals.cons (qv1 fun X h => Fb X (Row.below rb h)) (allVals.cons (qvf QL.out) (allVals.cons qv0 (allVals.cons qv0 (allVals.cons qv0 (allVals.cons qv0 (allVals.cons (qv1 fun X h => Fh X (Row.below rh h)) (allVals.cons qv0 (allVals.cons (qv1 fun X h => Fa X (Row.below ra h)) (allVals.cons (qvf QH.out) (allVals.cons qv0 (allVals.cons qv0 (allVals.cons qv0 (allVals.cons qv0 (allVals.cons qv0 (allVals.cons qv0 (allVals.cons qv0 (allVals.cons qv0 trivial)))))))))))))))))))))))))))))))))))))))))) ?_
            rintro W h1
            clear sa ca0 ca1 ca2 ca3
            clear sb cb0 cb1 cb2 cb3
            clear sr cr0 cr1
            clear sm cm0 cm1 cm2 cm3
            clear sh ch0 ch1 ch2 ch3
            replace hB := hB.trans (h1.mono hB.size)
            replace ra := Row.below ra h1
            replace rb := Row.below rb h1
            replace rr := Row.below rr h1
            replace rm := Row.below rm h1
            replace rh := Row.below rh h1
            clear h1
            obtain ⟨sa, ca0, ca1, ca2, ca3⟩ := Fa _ ra
            obtain ⟨sb, cb0, cb1, cb2, cb3⟩ := Fb _ rb
            obtain ⟨sr, cr0, cr1⟩ := Fr _ rr
            obtain ⟨sm, cm0, cm1, cm2, cm3⟩ := Fm _ rm
            obtain ⟨sh, ch0, ch1, ch2, ch3⟩ := Fh _ rh
            simp only [setVals, List.setIfInBounds_toArray, List.set_cons_succ, List.set_cons_zero]
            go_wp2
            go_meet
            case rel => exact ⟨rfl, BW, RW, RW, RW, RW, RW⟩
          · have EHI := Lib.hid ehi
            clear ehi
            have n2 := q_ne nhi
            rw [Ghhn.out, Ghhd.out, Gahn.out, Gahd.out] at n2
            clear nhi
            obtain ⟨qh1, qh2⟩ : hhn = bhn ∧ hhd = bhd := ⟨by rw [← Ghhn.out, ← Gbhn.out, EHI.out], by rw [← Ghhd.out, ← Gbhd.out, EHI.out]⟩
            clear HL HH ELO EHI
            clear Galn Gald Gahn Gahd Gbln Gbld Gbhn Gbhd Ghln Ghld Ghhn Ghhd
            have N1 := Lib.hid n1
            clear n1
            have N2 := Lib.hid n2
            clear n2
            have QL := Lib.hid (And.intro ql1 ql2)
            have QH := Lib.hid (And.intro qh1 qh2)
            clear ql1 ql2 qh1 qh2
            go_upto_region 9 with fail
            refine wp_region_vals_seq [.int .i64 0, .bool false, .bool false, .agg #[.string aln, .string ald, .string ahn, .string ahd], .agg #[.string hln, .string hld, .string hhn, .string hhd], .bool true, .bool false, .bool false, .bool false, .agg #[.string bln, .string bld, .string bhn, .string bhd], .agg #[.string hln, .string hld, .string hhn, .string hhd], .bool true, .bool false, .bool false, .bool false, .pointer (some ⟨W11.heap.size, 0, none⟩), .agg #[.string hln, .string hld], .pointer (some ⟨W3.heap.size, 0, none⟩), .agg #[.string aln, .string ald], .bool true, .bool true, .pointer (some ⟨W11.heap.size, 0, none⟩), .agg #[.string hln, .string hld], .pointer (some ⟨W5.heap.size, 0, none⟩), .agg #[.string bln, .string bld], .bool false, .bool false, .bool false, .bool false, .pointer (some ⟨W11.heap.size, 2, none⟩), .agg #[.string hhn, .string hhd], .pointer (some ⟨W3.heap.size, 2, none⟩), .agg #[.string ahn, .string ahd], .bool true, .bool true, .pointer (some ⟨W11.heap.size, 2, none⟩), .agg #[.string hhn, .string hhd], .pointer (some ⟨W5.heap.size, 2, none⟩), .agg #[.string bhn, .string bhd], .bool false, .bool false, .bool false] (by kernel_rfl) rfl (allVals.cons qv0 (allVals.cons qv0 (allVals.cons qv0 (allVals.cons (qv1 fun X h => Fa X (Row.below ra h)) (allVals.cons (qv1 fun X h => Fh X (Row.below rh h)) (allVals.cons (qv2 fun X h => WA X (he.env.below (hB.trans (h.mono hB.size)))) (allVals.cons qv0 (allVals.cons qv0 (allVals.cons qv0 (allVals.cons (qv1 fun X h => Fb X (Row.below rb h)) (allVals.cons (qv1 fun X h => Fh X (Row.below rh h)) (allVals.cons (qv2 fun X h => WB X (he.env.below (hB.trans (h.mono hB.size)))) (allVals.cons qv0 (allVals.cons qv0 (allVals.cons qv0 (allVals.cons qv0 (allVals.cons (qv1 fun X h => Fh X (Row.below rh h)) (allVals.cons qv0 (allVals.cons (qv1 fun X h => Fa X (Row.below ra h)) (allVals.cons (qvs N1.out) (allVals.cons qv0 (allVals.cons qv0 (allVals.cons (qv1 fun X h => Fh X (Row.below rh h)) (allVals.cons qv0 (allVals.cons (qv1 fun X h => Fb X (Row.below rb h)) (allVals.cons (qvf QL.out) (allVals.cons qv0 (allVals.cons qv0 (allVals.cons qv0 (allVals.cons qv0 (allVals.cons (qv1 fun X h => Fh X (Row.below rh h)) (allVals.cons qv0 (allVals.cons (qv1 fun X h => Fa X (Row.below ra h)) (allVals.cons (qvs N2.out) (allVals.cons qv0 (allVals.cons qv0 (allVals.cons (qv1 fun X h => Fh X (Row.below rh h)) (allVals.cons qv0 (allVals.cons (qv1 fun X h => Fb X (Row.below rb h)) (allVals.cons (qvf QH.out) (allVals.cons qv0 (allVals.cons qv0 trivial)))))))))))))))))))))))))))))))))))))))))) ?_
            rintro W h1
            clear sa ca0 ca1 ca2 ca3
            clear sb cb0 cb1 cb2 cb3
            clear sr cr0 cr1
            clear sm cm0 cm1 cm2 cm3
            clear sh ch0 ch1 ch2 ch3
            replace hB := hB.trans (h1.mono hB.size)
            replace ra := Row.below ra h1
            replace rb := Row.below rb h1
            replace rr := Row.below rr h1
            replace rm := Row.below rm h1
            replace rh := Row.below rh h1
            clear h1
            obtain ⟨sa, ca0, ca1, ca2, ca3⟩ := Fa _ ra
            obtain ⟨sb, cb0, cb1, cb2, cb3⟩ := Fb _ rb
            obtain ⟨sr, cr0, cr1⟩ := Fr _ rr
            obtain ⟨sm, cm0, cm1, cm2, cm3⟩ := Fm _ rm
            obtain ⟨sh, ch0, ch1, ch2, ch3⟩ := Fh _ rh
            simp only [setVals, List.setIfInBounds_toArray, List.set_cons_succ, List.set_cons_zero]
            go_wp2
            go_meet
            case rel => exact ⟨rfl, BW, RW, RW, RW, RW, RW⟩
      case rest =>
        clear hB ra rb rr rm rh
        clear sa ca0 ca1 ca2 ca3
        clear sb cb0 cb1 cb2 cb3
        clear sr cr0 cr1
        clear sm cm0 cm1 cm2 cm3
        clear sh ch0 ch1 ch2 ch3
        obtain ⟨rfl, hB, ra, rb, rr, rm, rh⟩ := hcut
        have sB := hB.size
        clear sB
        obtain ⟨sa, ca0, ca1, ca2, ca3⟩ := Fa _ ra
        obtain ⟨sb, cb0, cb1, cb2, cb3⟩ := Fb _ rb
        obtain ⟨sr, cr0, cr1⟩ := Fr _ rr
        obtain ⟨sm, cm0, cm1, cm2, cm3⟩ := Fm _ rm
        obtain ⟨sh, ch0, ch1, ch2, ch3⟩ := Fh _ rh
        clear WA WB HL HH Galn Gald Gahn Gahd Gbln Gbld Gbhn Gbhd Ghln Ghld Ghhn Ghhd
        rcases hem with ⟨rfl, rfl⟩ | ⟨rfl, rfl⟩
        · skip
          go_upto_region 11 with fail
          clear ra
          clear sa ca0 ca1 ca2 ca3
          clear Fa
          clear rb
          clear sb cb0 cb1 cb2 cb3
          clear Fb
          clear rh
          clear sh ch0 ch1 ch2 ch3
          clear Fh
          refine wp_region_vals_seq [.bool true, .bool true, .int .i64 0, .bool true, .bool true, .bool true, .bool true, .bool true, .agg #[.string m0, .string m1, .string m2, .string m3], .agg #[.string rn, .string rd], .bool bo, .bool bo, .bool true, .bool true, .bool true] (by kernel_rfl) rfl (allVals.cons qv0 (allVals.cons qv0 (allVals.cons qv0 (allVals.cons qv0 (allVals.cons qv0 (allVals.cons qv0 (allVals.cons qv0 (allVals.cons qv0 (allVals.cons (qv1 fun X h => Fm X (Row.below rm h)) (allVals.cons (qv1 fun X h => Fr X (Row.below rr h)) (allVals.cons (qv2 fun X h => CM X (he.env.below (hB.trans (h.mono hB.size)))) (allVals.cons qv0 (allVals.cons qv0 (allVals.cons qv0 (allVals.cons qv0 trivial))))))))))))))) ?_
          rintro W h1
          clear sr cr0 cr1
          clear sm cm0 cm1 cm2 cm3
          replace hB := hB.trans (h1.mono hB.size)
          replace rr := Row.below rr h1
          replace rm := Row.below rm h1
          clear h1
          obtain ⟨sr, cr0, cr1⟩ := Fr _ rr
          obtain ⟨sm, cm0, cm1, cm2, cm3⟩ := Fm _ rm
          simp only [setVals, List.setIfInBounds_toArray, List.set_cons_succ, List.set_cons_zero]
          go_wp2
          go_ret
          exact ⟨rfl, hB⟩
        · skip
          go_upto_region 11 with fail
          clear ra
          clear sa ca0 ca1 ca2 ca3
          clear Fa
          clear rb
          clear sb cb0 cb1 cb2 cb3
          clear Fb
          clear rh
          clear sh ch0 ch1 ch2 ch3
          clear Fh
          refine wp_region_vals_seq [.bool true, .bool true, .int .i64 50, .bool false, .bool false, .bool true, .bool true, .bool true, .agg #[.string m0, .string m1, .string m2, .string m3], .agg #[.string rn, .string rd], .bool bo, .bool bo, .bool true, .bool true, .bool true] (by kernel_rfl) rfl (allVals.cons qv0 (allVals.cons qv0 (allVals.cons qv0 (allVals.cons qv0 (allVals.cons qv0 (allVals.cons qv0 (allVals.cons qv0 (allVals.cons qv0 (allVals.cons (qv1 fun X h => Fm X (Row.below rm h)) (allVals.cons (qv1 fun X h => Fr X (Row.below rr h)) (allVals.cons (qv2 fun X h => CM X (he.env.below (hB.trans (h.mono hB.size)))) (allVals.cons qv0 (allVals.cons qv0 (allVals.cons qv0 (allVals.cons qv0 trivial))))))))))))))) ?_
          rintro W h1
          clear sr cr0 cr1
          clear sm cm0 cm1 cm2 cm3
          replace hB := hB.trans (h1.mono hB.size)
          replace rr := Row.below rr h1
          replace rm := Row.below rm h1
          clear h1
          obtain ⟨sr, cr0, cr1⟩ := Fr _ rr
          obtain ⟨sm, cm0, cm1, cm2, cm3⟩ := Fm _ rm
          simp only [setVals, List.setIfInBounds_toArray, List.set_cons_succ, List.set_cons_zero]
          go_wp2
          go_ret
          exact ⟨rfl, hB⟩
end Go.Proofs.YtbgagplpomfkkaaGreatDoor
