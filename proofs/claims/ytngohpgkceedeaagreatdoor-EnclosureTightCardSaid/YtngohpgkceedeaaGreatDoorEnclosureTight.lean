/-
  EnclosureTight: the walk.
-/
import Derived.Test.YtngohpgkceedeaaGreatDoorSane5
import Derived.Test.YtngohpgkceedeaaGreatDoorECalls
import Derived.Test.YtngohpgkceedeaaGreatDoorECallsFacts
import Derived.Test.YtngohpgkceedeaaGreatDoorTightPlain
import Derived.Test.YtngohpgkceedeaaGreatDoorTail
import Derived.Deep.RegionHeld3
import Derived.Deep.RegionWith
import Derived.Deep.DeepCutAuto
set_option linter.unusedSimpArgs false
set_option linter.unusedVariables false
namespace Go.Proofs.YtngohpgkceedeaaGreatDoor
open Go Go.RowKit Go.Lib Go.Shelf

theorem dig0 : QDig 3 (0 : Rat) := by unfold QDig Dig; decide +kernel
theorem q_ne {p q : Rat} (h : p ≠ q) : ¬ ((S p.num).toList = (S q.num).toList ∧ (S (p.den : Int)).toList = (S (q.den : Int)).toList) := by
  rintro ⟨e1, e2⟩
  refine h (rat_ext ?_ ?_)
  · refine Classical.not_not.1 fun hn => ?_
    have := S_ne hn
    rw [e1] at this
    simp at this
  · refine Classical.not_not.1 fun hn => ?_
    have := S_ne hn
    rw [e2] at this
    simp at this
theorem q_beq (p q : Rat) : ((S p.num).toList == (S q.num).toList && (S (p.den : Int)).toList == (S (q.den : Int)).toList) = decide (p = q) := by
  by_cases h : p = q
  · subst h; simp
  · rw [decide_eq_false h]
    have := q_ne h
    rw [← Bool.not_eq_true, Bool.and_eq_true, beq_iff_eq, beq_iff_eq]
    exact this
/-- One round's calls: the sum that is made first, the operation's own result, and that the interval contains it. -/
theorem tight_ops {i k : Nat} {a b o : Iv} (da : IDig 3 a) (db : IDig 3 b) (oa : a.Ok) (ob : b.Ok) (hi : i < 4) (h : OpRes i a b (TT 3) (some o)) : ∃ q v : Rat, q = opQ i (endR a k) (endS b k)
    ∧ (i = 0 ∧ q = v ∨ i = 1 ∧ (∀ W, Env W → Calls Tryz.prog 20 #[Q (endR a k), Q (endS b k)] W (QOk q W)) ∨ i = 2 ∧ (∀ W, Env W → Calls Tryz.prog 25 #[Q (endR a k), Q (endS b k)] W (QOk q W)) ∨ i = 3 ∧ (∀ W, Env W → Calls Tryz.prog 19 #[Q (endR a k), Q (endS b k)] W (QOk q W)))
    ∧ (∀ W, Env W → Calls Tryz.prog 24 #[Q (endR a k), Q (endS b k)] W (QOk v W))
    ∧ (∀ W, Env W → Calls Tryz.prog 23 #[I o, Q q] W (BoolOk true W)) := by
  have d1 := endR_dig da k
  have d2 := endS_dig db k
  have hs := endS_has ob k
  have hh := tight_has oa ob hi h k
  have dO : IDig 200 o := (h.dig (show 0 < 3 by omega) ob da db).mono (by omega)
  have dq : QDig 200 (opQ i (endR a k) (endS b k)) := by
    obtain rfl | rfl | rfl | rfl : i = 0 ∨ i = 1 ∨ i = 2 ∨ i = 3 := by omega
    · exact (d1.add d2).mono (by omega)
    · exact (d1.sub d2).mono (by omega)
    · exact (d1.mul d2).mono (by omega)
    · exact (d1.div d2 ((tight_free h).ne hs)).mono (by omega)
  refine ⟨_, _, rfl, ?_, fun W he => qadd d1 d2 (by omega) W he, fun W he => ?_⟩
  · obtain rfl | rfl | rfl | rfl : i = 0 ∨ i = 1 ∨ i = 2 ∨ i = 3 := by omega
    · exact .inl ⟨rfl, rfl⟩
    · exact .inr (.inl ⟨rfl, fun W he => qsub d1 d2 (by omega) W he⟩)
    · exact .inr (.inr (.inl ⟨rfl, fun W he => qmul d1 d2 (by omega) W he⟩))
    · exact .inr (.inr (.inr ⟨rfl, fun W he => qdiv d1 d2 (by omega) ((tight_free h).ne hs) W he⟩))
  · have := econtains o _ dO dq W he
    rwa [decide_eq_true (show o.lo ≤ opQ i (endR a k) (endS b k) ∧ opQ i (endR a k) (endS b k) ≤ o.hi from hh)] at this
theorem ncalls {a0 : Addr} {a b : Iv} {p : Nat} (da : IDig 7 a) (db : IDig 7 b) (oa : a.Ok) (ob : b.Ok) (hp : (p : Int) < 12) (w : World) (he : EnvE a0 w) : Calls Tryz.prog 22 #[I a, I b, .int .i64 (p : Int)] w
    fun e w' => ∃ (f : Nat → Option Iv) (g gc : Nat) (gs : Array Value) (h hc : Nat) (hs : Array Value), (∀ k, k < 8 → OpRes k a b (TT p) (f k)) ∧ e = .returned (.tuple #[.slice (some ⟨g, 0, none⟩) 8 gc, .slice (some ⟨h, 0, none⟩) 8 hc])
      ∧ Row w' g (.cells gs 29) ∧ Row w' h (.cells hs 31)
      ∧ gs.toList.take 32 = oCells [f 0, f 1, f 2, f 3, f 4, f 5, f 6, f 7] ∧ hs.toList.take 8 = oErrs [f 0, f 1, f 2, f 3, f 4, f 5, f 6, f 7] ∧ Below w.heap.size w w' :=
  (ecalls p da db oa ob (by omega) (by omega) (by omega) w he).mono fun e w' hh => by
    obtain ⟨f, g, gc, gs, h, hc, hs, hf, rfl, _, _, rg, rh, xg, xh, hb⟩ := callsOk.open hh
    exact ⟨f, g, gc, gs, h, hc, hs, hf, rfl, rg, rh, xg, xh, hb⟩
set_option maxRecDepth 100000 in
set_option maxHeartbeats 16000000 in
theorem enclosureTight_any {a0 : Addr} (x0 x1 x2 x3 y0 y1 y2 y3 : Int) (hx : IsInt x0 ∧ IsInt x1 ∧ IsInt x2 ∧ IsInt x3) (hy : IsInt y0 ∧ IsInt y1 ∧ IsInt y2 ∧ IsInt y3) (w : World) (he : EnvE a0 w) :
    Calls Tryz.prog 4 #[.agg #[.int .i64 x0, .int .i64 x1, .int .i64 x2, .int .i64 x3], .agg #[.int .i64 y0, .int .i64 y1, .int .i64 y2, .int .i64 y3]] w (BoolOk true w) := by
  have hB : Below w.heap.size w w := Below.refl _ _
  have MS := fun W (h : EnvE a0 W) => sane5 W h
  have MX := fun W => rmade x0 x1 x2 x3 hx.1 hx.2.1 hx.2.2.1 hx.2.2.2 W
  have MY := fun W => rmade y0 y1 y2 y3 hy.1 hy.2.1 hy.2.2.1 hy.2.2.2 W
  have R0 := fun W => lratio (n := 0) (d := 1) ⟨by omega, by omega⟩ ⟨by omega, by omega⟩ (by omega) W
  have e00 : Rat.divInt 0 1 = 0 := by decide +kernel
  rw [e00] at R0
  clear e00
  unfold BoolOk at MS
  unfold ivIs I at MX MY
  unfold QIs Q at R0
  clear hx hy
  go_enter Tryz.func4, Tryz.ntmps4
  go_wp2_with fail
  have sB := hB.size
  refine world_cut (fun X => Below w.heap.size w X ∧ Row X w.heap.size (.cells #[.int .i64 x0, .int .i64 x1, .int .i64 x2, .int .i64 x3] 22) ∧ Row X (w.heap.size + 1) (.cells #[.int .i64 y0, .int .i64 y1, .int .i64 y2, .int .i64 y3] 22)) ⟨BW, RW, RW⟩ ?_
  clear hB sB
  rintro V1 ⟨hB, rx, ry⟩
  have Fx : ∀ X, Row X w.heap.size (.cells #[.int .i64 x0, .int .i64 x1, .int .i64 x2, .int .i64 x3] 22) → (w.heap.size < X.heap.size ∧ X.cell? ⟨w.heap.size, 0, none⟩ = some (.int .i64 x0) ∧ X.cell? ⟨w.heap.size, 1, none⟩ = some (.int .i64 x1) ∧ X.cell? ⟨w.heap.size, 2, none⟩ = some (.int .i64 x2) ∧ X.cell? ⟨w.heap.size, 3, none⟩ = some (.int .i64 x3)) := fun X h => ⟨h.1, Row.cell_at h 0 rfl, Row.cell_at h 1 rfl, Row.cell_at h 2 rfl, Row.cell_at h 3 rfl⟩
  obtain ⟨sx, cx0, cx1, cx2, cx3⟩ := Fx _ rx
  have Fy : ∀ X, Row X (w.heap.size + 1) (.cells #[.int .i64 y0, .int .i64 y1, .int .i64 y2, .int .i64 y3] 22) → (w.heap.size + 1 < X.heap.size ∧ X.cell? ⟨w.heap.size + 1, 0, none⟩ = some (.int .i64 y0) ∧ X.cell? ⟨w.heap.size + 1, 1, none⟩ = some (.int .i64 y1) ∧ X.cell? ⟨w.heap.size + 1, 2, none⟩ = some (.int .i64 y2) ∧ X.cell? ⟨w.heap.size + 1, 3, none⟩ = some (.int .i64 y3)) := fun X h => ⟨h.1, Row.cell_at h 0 rfl, Row.cell_at h 1 rfl, Row.cell_at h 2 rfl, Row.cell_at h 3 rfl⟩
  obtain ⟨sy, cy0, cy1, cy2, cy3⟩ := Fy _ ry
  refine (MS _ (he.below hB)).mono ?_
  rintro e W2 ⟨rfl, h1⟩
  clear sx cx0 cx1 cx2 cx3
  clear sy cy0 cy1 cy2 cy3
  replace hB := hB.trans (h1.mono hB.size)
  replace rx := Row.below rx h1
  replace ry := Row.below ry h1
  clear h1
  obtain ⟨sx, cx0, cx1, cx2, cx3⟩ := Fx _ rx
  obtain ⟨sy, cy0, cy1, cy2, cy3⟩ := Fy _ ry
  go_wp2_with fail
  clear rx
  clear sx cx0 cx1 cx2 cx3
  clear Fx
  refine (MX _).mono ?_
  rintro e W3 ⟨a, ⟨da, oa⟩, rfl, h1⟩
  clear sy cy0 cy1 cy2 cy3
  replace hB := hB.trans (h1.mono hB.size)
  replace ry := Row.below ry h1
  clear h1
  obtain ⟨sy, cy0, cy1, cy2, cy3⟩ := Fy _ ry
  clear MS MX
  go_wp2_with fail
  clear Fy
  have sB := hB.size
  refine world_cut (fun X => Below w.heap.size w X ∧ Row X W3.heap.size (.cells #[.string (S a.lo.num), .string (S (a.lo.den : Int)), .string (S a.hi.num), .string (S (a.hi.den : Int))] 29)) ⟨BW, RW⟩ ?_
  clear ry
  clear sy cy0 cy1 cy2 cy3
  clear hB sB
  rintro V4 ⟨hB, ra⟩
  have Fa : ∀ X, Row X W3.heap.size (.cells #[.string (S a.lo.num), .string (S (a.lo.den : Int)), .string (S a.hi.num), .string (S (a.hi.den : Int))] 29) → (W3.heap.size < X.heap.size ∧ X.cell? ⟨W3.heap.size, 0, none⟩ = some (.string (S a.lo.num)) ∧ X.cell? ⟨W3.heap.size, 1, none⟩ = some (.string (S (a.lo.den : Int))) ∧ X.cell? ⟨W3.heap.size, 2, none⟩ = some (.string (S a.hi.num)) ∧ X.cell? ⟨W3.heap.size, 3, none⟩ = some (.string (S (a.hi.den : Int)))) := fun X h => ⟨h.1, Row.cell_at h 0 rfl, Row.cell_at h 1 rfl, Row.cell_at h 2 rfl, Row.cell_at h 3 rfl⟩
  obtain ⟨sa, ca0, ca1, ca2, ca3⟩ := Fa _ ra
  refine (MY _).mono ?_
  rintro e W5 ⟨b, ⟨db, ob⟩, rfl, h1⟩
  clear sa ca0 ca1 ca2 ca3
  replace hB := hB.trans (h1.mono hB.size)
  replace ra := Row.below ra h1
  clear h1
  obtain ⟨sa, ca0, ca1, ca2, ca3⟩ := Fa _ ra
  clear MY
  have CALLS := fun W (h : EnvE a0 W) => ncalls (p := 3) (da.mono (show 3 ≤ 7 by omega)) (db.mono (show 3 ≤ 7 by omega)) oa ob (by omega) W h
  unfold I at CALLS
  go_wp2_with fail
  have sB := hB.size
  refine world_cut (fun X => Below w.heap.size w X ∧ Row X W3.heap.size (.cells #[.string (S a.lo.num), .string (S (a.lo.den : Int)), .string (S a.hi.num), .string (S (a.hi.den : Int))] 29) ∧ Row X W5.heap.size (.cells #[.string (S b.lo.num), .string (S (b.lo.den : Int)), .string (S b.hi.num), .string (S (b.hi.den : Int))] 29)) ⟨BW, RW, RW⟩ ?_
  clear ra
  clear sa ca0 ca1 ca2 ca3
  clear hB sB
  rintro V6 ⟨hB, ra, rb⟩
  obtain ⟨sa, ca0, ca1, ca2, ca3⟩ := Fa _ ra
  have Fb : ∀ X, Row X W5.heap.size (.cells #[.string (S b.lo.num), .string (S (b.lo.den : Int)), .string (S b.hi.num), .string (S (b.hi.den : Int))] 29) → (W5.heap.size < X.heap.size ∧ X.cell? ⟨W5.heap.size, 0, none⟩ = some (.string (S b.lo.num)) ∧ X.cell? ⟨W5.heap.size, 1, none⟩ = some (.string (S (b.lo.den : Int))) ∧ X.cell? ⟨W5.heap.size, 2, none⟩ = some (.string (S b.hi.num)) ∧ X.cell? ⟨W5.heap.size, 3, none⟩ = some (.string (S (b.hi.den : Int)))) := fun X h => ⟨h.1, Row.cell_at h 0 rfl, Row.cell_at h 1 rfl, Row.cell_at h 2 rfl, Row.cell_at h 3 rfl⟩
  obtain ⟨sb, cb0, cb1, cb2, cb3⟩ := Fb _ rb
  refine (CALLS _ (he.below hB)).mono ?_
  rintro e W7 ⟨f, g, gc, gs, h, hc, hs, hf, rfl, rg, rh, xg, xh, h1⟩
  clear sa ca0 ca1 ca2 ca3
  clear sb cb0 cb1 cb2 cb3
  replace hB := hB.trans (h1.mono hB.size)
  replace ra := Row.below ra h1
  replace rb := Row.below rb h1
  clear h1
  obtain ⟨sa, ca0, ca1, ca2, ca3⟩ := Fa _ ra
  obtain ⟨sb, cb0, cb1, cb2, cb3⟩ := Fb _ rb
  clear CALLS
  have Fg : ∀ X, Row X g (.cells gs 29) → (g < X.heap.size) := fun X h => h.1
  have sg := Fg _ rg
  have Fh : ∀ X, Row X h (.cells hs 31) → (h < X.heap.size) := fun X h => h.1
  have sh := Fh _ rh
  have KEY : Hid (∀ i, i < 4 → OpRes i a b (TT 3) (f i)) := Lib.hid fun i hi => hf i (by omega)
  have DA := Lib.hid (And.intro da (And.intro db (And.intro oa ob)))
  clear hf da db oa ob
  go_wp2_with fail
  go_loopw [10] (fun v10 wr => ∃ i : Nat, v10 = .int .i64 (i : Int) ∧ i ≤ 4 ∧ Below w.heap.size w wr ∧ Row wr W3.heap.size (.cells #[.string (S a.lo.num), .string (S (a.lo.den : Int)), .string (S a.hi.num), .string (S (a.hi.den : Int))] 29) ∧ Row wr W5.heap.size (.cells #[.string (S b.lo.num), .string (S (b.lo.den : Int)), .string (S b.hi.num), .string (S (b.hi.den : Int))] 29) ∧ Row wr g (.cells gs 29) ∧ Row wr h (.cells hs 31)) (fun v10 _ => (4 - intOf v10).toNat)
  case atStart => exact ⟨0, rfl, by omega, hB, ra, rb, rg, rh⟩
  case round =>
    clear sa ca0 ca1 ca2 ca3
    clear sb cb0 cb1 cb2 cb3
    clear sg
    clear sh
    clear hB ra rb rg rh
    obtain ⟨i, rfl, hi4, hB, ra, rb, rg, rh⟩ := hrel
    rcases Nat.lt_or_ge i 4 with hlt | hge
    · have hi4i : (i : Int) < 4 := by omega
      have KK := KEY.out i hlt
      clear KEY
      obtain ⟨g0, g1, g2, g3, h0⟩ := oCells8 f i (by omega)
      generalize f i = o at KK g0 g1 g2 g3 h0
      rcases o with _ | o
      · obtain ⟨rfl, nf⟩ := tight_none hlt KK
        clear g0 g1 g2 g3 KK
        have CB := fun W (h : Env W) => econtains b 0 (DA.out.2.1.mono (by omega)) (dig0.mono (by omega)) W h
        rw [decide_eq_true (show b.lo ≤ 0 ∧ 0 ≤ b.hi from not_free nf)] at CB
        unfold BoolOk I Q at CB
        clear DA nf
        obtain ⟨sa, ca0, ca1, ca2, ca3⟩ := Fa _ ra
        obtain ⟨sb, cb0, cb1, cb2, cb3⟩ := Fb _ rb
        have sg := Fg _ rg
        clear Fh
        have Fh : ∀ X, Row X h (.cells hs 31) → (h < X.heap.size ∧ X.cell? ⟨h, 3, none⟩ = some (.int .i64 50)) := fun X h => ⟨h.1, Row.cell_take h xh h0⟩
        obtain ⟨sh, ch0⟩ := Fh _ rh
        go_wp2_with fail
        refine wp_region_vals [.int .i64 3, .bool false, .bool false, .agg #[.string (S b.lo.num), .string (S (b.lo.den : Int)), .string (S b.hi.num), .string (S (b.hi.den : Int))], .agg #[.string (S (0 : Rat).num), .string (S ((0 : Rat).den : Int))], .bool true, .bool false, .bool false] (by kernel_rfl) (by kernel_rfl) rfl (allVals.cons qv0 (allVals.cons qv0 (allVals.cons qv0 (allVals.cons (qv1 fun X h => Fb X (Row.below rb h)) (allVals.cons (qv2 fun X h => R0 X) (allVals.cons (qv2 fun X h => CB X (he.env.below (hB.trans (h.mono hB.size)))) (allVals.cons qv0 (allVals.cons qv0 trivial)))))))) ?_
        rintro W h1
        clear sa ca0 ca1 ca2 ca3
        clear sb cb0 cb1 cb2 cb3
        clear sg
        clear sh ch0
        replace hB := hB.trans (h1.mono hB.size)
        replace ra := Row.below ra h1
        replace rb := Row.below rb h1
        replace rg := Row.below rg h1
        replace rh := Row.below rh h1
        clear h1
        obtain ⟨sa, ca0, ca1, ca2, ca3⟩ := Fa _ ra
        obtain ⟨sb, cb0, cb1, cb2, cb3⟩ := Fb _ rb
        have sg := Fg _ rg
        obtain ⟨sh, ch0⟩ := Fh _ rh
        simp only [setVals, List.setIfInBounds_toArray, List.set_cons_succ, List.set_cons_zero]
        go_wp2
        go_roundw
        case rel => exact ⟨4, rfl, by omega, BW, RW, RW, RW, RW⟩
        case measure => simp [intOf]
      · unfold oS1 at g0
        unfold oS2 at g1
        unfold oS3 at g2
        unfold oS4 at g3
        simp only at g0 g1 g2 g3
        obtain ⟨sa, ca0, ca1, ca2, ca3⟩ := Fa _ ra
        obtain ⟨sb, cb0, cb1, cb2, cb3⟩ := Fb _ rb
        clear Fg
        have Fg : ∀ X, Row X g (.cells gs 29) → (g < X.heap.size ∧ X.cell? ⟨g, i * 4, none⟩ = some (.string (S o.lo.num)) ∧ X.cell? ⟨g, i * 4 + 1, none⟩ = some (.string (S (o.lo.den : Int))) ∧ X.cell? ⟨g, i * 4 + 2, none⟩ = some (.string (S o.hi.num)) ∧ X.cell? ⟨g, i * 4 + 3, none⟩ = some (.string (S (o.hi.den : Int)))) := fun X h => ⟨h.1, Row.cell_take h xg g0, Row.cell_take h xg g1, Row.cell_take h xg g2, Row.cell_take h xg g3⟩
        obtain ⟨sg, cg0, cg1, cg2, cg3⟩ := Fg _ rg
        clear Fh
        have Fh : ∀ X, Row X h (.cells hs 31) → (h < X.heap.size ∧ X.cell? ⟨h, i, none⟩ = some (.int .i64 0)) := fun X h => ⟨h.1, Row.cell_take h xh h0⟩
        obtain ⟨sh, ch0⟩ := Fh _ rh
        have DLo := Due.start (tight_lo hlt KK)
        have DHi := Due.start (tight_hi hlt KK)
        have KH := Lib.hid KK
        clear KK
        go_wp2_with fail
        go_loopw [11, 12, 13] (fun v11 v12 v13 w2 => ∃ (k : Nat) (l m : Bool), v11 = .bool l ∧ v12 = .bool m ∧ v13 = .int .i64 (k : Int) ∧ k ≤ 4 ∧ Due i a b o.lo k l ∧ Due i a b o.hi k m ∧ Below w.heap.size w w2 ∧ Row w2 W3.heap.size (.cells #[.string (S a.lo.num), .string (S (a.lo.den : Int)), .string (S a.hi.num), .string (S (a.hi.den : Int))] 29) ∧ Row w2 W5.heap.size (.cells #[.string (S b.lo.num), .string (S (b.lo.den : Int)), .string (S b.hi.num), .string (S (b.hi.den : Int))] 29) ∧ Row w2 g (.cells gs 29) ∧ Row w2 h (.cells hs 31)) (fun _ _ v13 _ => (4 - intOf v13).toNat)
        case atStart => exact ⟨0, false, false, rfl, rfl, rfl, by omega, DLo, DHi, hB, ra, rb, rg, rh⟩
        case round =>
          clear sa ca0 ca1 ca2 ca3
          clear sb cb0 cb1 cb2 cb3
          clear sg cg0 cg1 cg2 cg3
          clear sh ch0
          clear DLo DHi hB ra rb rg rh
          obtain ⟨k, l, m, rfl, rfl, rfl, hk4, DLo, DHi, hB, ra, rb, rg, rh⟩ := hrel
          rcases Nat.lt_or_ge k 4 with hkl | hkg
          · obtain ⟨sa, ca0, ca1, ca2, ca3⟩ := Fa _ ra
            obtain ⟨sb, cb0, cb1, cb2, cb3⟩ := Fb _ rb
            obtain ⟨sg, cg0, cg1, cg2, cg3⟩ := Fg _ rg
            obtain ⟨sh, ch0⟩ := Fh _ rh
            have hki : (k : Int) < 4 := by omega
            obtain ⟨q, v, hq, OPS, AD, CQ⟩ := tight_ops (k := k) DA.out.1 DA.out.2.1 DA.out.2.2.1 DA.out.2.2.2 hlt KH.out
            obtain ⟨r, hr⟩ : ∃ r, r = endR a k := ⟨_, rfl⟩
            obtain ⟨s, hs⟩ : ∃ s, s = endS b k := ⟨_, rfl⟩
            rw [← hr, ← hs] at OPS AD
            have DL2 := DLo.next (m := (l || decide (q = o.lo))) (by rw [hq])
            have DH2 := DHi.next (m := (m || decide (q = o.hi))) (by rw [hq])
            replace OPS := Lib.hid OPS
            replace DLo := Lib.hid DL2
            replace DHi := Lib.hid DH2
            clear hq DL2 DH2
            have hlt8 : (i : Int) < 8 := by omega
            unfold BoolOk I Q at CQ
            unfold QOk Q at AD
            have HRS := Lib.hid (And.intro hr hs)
            clear hr hs
            obtain ⟨N1, hN1⟩ : ∃ N, N = wr.heap.size := ⟨_, rfl⟩
            go_upto_region 16 with fail
            go_cut [14] (fun s14 W => s14 = .pointer (some ⟨N1 + 1, 0, none⟩) ∧ Below w.heap.size w W ∧ Row W W3.heap.size (.cells #[.string (S a.lo.num), .string (S (a.lo.den : Int)), .string (S a.hi.num), .string (S (a.hi.den : Int))] 29) ∧ Row W W5.heap.size (.cells #[.string (S b.lo.num), .string (S (b.lo.den : Int)), .string (S b.hi.num), .string (S (b.hi.den : Int))] 29) ∧ Row W g (.cells gs 29) ∧ Row W h (.cells hs 31) ∧ Row W (N1 + 1) (.cells #[.string (S r.num), .string (S (r.den : Int))] 26))
            case first =>
              clear DLo DHi KH DA OPS AD CQ
              have sB := hB.size
              obtain rfl | rfl | rfl | rfl : k = 0 ∨ k = 1 ∨ k = 2 ∨ k = 3 := by omega
              · obtain rfl : r = a.lo := HRS.out.1
                rw [show ((0 : Nat) : Int) = 0 from rfl]
                go_wp2
                go_meet
                case rel => exact ⟨by rw [hN1], BW, RW, RW, RW, RW, RW⟩
              · obtain rfl : r = a.lo := HRS.out.1
                rw [show ((1 : Nat) : Int) = 1 from rfl]
                go_wp2
                go_meet
                case rel => exact ⟨by rw [hN1], BW, RW, RW, RW, RW, RW⟩
              · obtain rfl : r = a.hi := HRS.out.1
                rw [show ((2 : Nat) : Int) = 2 from rfl]
                go_wp2
                go_meet
                case rel => exact ⟨by rw [hN1], BW, RW, RW, RW, RW, RW⟩
              · obtain rfl : r = a.hi := HRS.out.1
                rw [show ((3 : Nat) : Int) = 3 from rfl]
                go_wp2
                go_meet
                case rel => exact ⟨by rw [hN1], BW, RW, RW, RW, RW, RW⟩
            case rest =>
              clear hB ra rb rg rh
              clear sa ca0 ca1 ca2 ca3
              clear sb cb0 cb1 cb2 cb3
              clear sg cg0 cg1 cg2 cg3
              clear sh ch0
              obtain ⟨rfl, hB, ra, rb, rg, rh, rr⟩ := hcut
              obtain ⟨sa, ca0, ca1, ca2, ca3⟩ := Fa _ ra
              obtain ⟨sb, cb0, cb1, cb2, cb3⟩ := Fb _ rb
              obtain ⟨sg, cg0, cg1, cg2, cg3⟩ := Fg _ rg
              obtain ⟨sh, ch0⟩ := Fh _ rh
              have Fr : ∀ X, Row X (N1 + 1) (.cells #[.string (S r.num), .string (S (r.den : Int))] 26) → (N1 + 1 < X.heap.size ∧ X.cell? ⟨N1 + 1, 0, none⟩ = some (.string (S r.num)) ∧ X.cell? ⟨N1 + 1, 1, none⟩ = some (.string (S (r.den : Int)))) := fun X h => ⟨h.1, Row.cell_at h 0 rfl, Row.cell_at h 1 rfl⟩
              obtain ⟨sr, cr0, cr1⟩ := Fr _ rr
              clear hN1
              obtain ⟨N2, hN2⟩ : ∃ N, N = wc.heap.size := ⟨_, rfl⟩
              go_upto_region 17 with fail
              go_cut [15] (fun s15 W => s15 = .pointer (some ⟨N2 + 1, 0, none⟩) ∧ Below w.heap.size w W ∧ Row W W3.heap.size (.cells #[.string (S a.lo.num), .string (S (a.lo.den : Int)), .string (S a.hi.num), .string (S (a.hi.den : Int))] 29) ∧ Row W W5.heap.size (.cells #[.string (S b.lo.num), .string (S (b.lo.den : Int)), .string (S b.hi.num), .string (S (b.hi.den : Int))] 29) ∧ Row W g (.cells gs 29) ∧ Row W h (.cells hs 31) ∧ Row W (N1 + 1) (.cells #[.string (S r.num), .string (S (r.den : Int))] 26) ∧ Row W (N2 + 1) (.cells #[.string (S s.num), .string (S (s.den : Int))] 26))
              case first =>
                clear DLo DHi KH DA OPS AD CQ
                have sB := hB.size
                obtain rfl | rfl | rfl | rfl : k = 0 ∨ k = 1 ∨ k = 2 ∨ k = 3 := by omega
                · obtain rfl : s = b.lo := HRS.out.2
                  rw [show ((0 : Nat) : Int) = 0 from rfl]
                  go_wp2
                  go_meet
                  case rel => exact ⟨by rw [hN2], BW, RW, RW, RW, RW, RW, RW⟩
                · obtain rfl : s = b.hi := HRS.out.2
                  rw [show ((1 : Nat) : Int) = 1 from rfl]
                  go_wp2
                  go_meet
                  case rel => exact ⟨by rw [hN2], BW, RW, RW, RW, RW, RW, RW⟩
                · obtain rfl : s = b.lo := HRS.out.2
                  rw [show ((2 : Nat) : Int) = 2 from rfl]
                  go_wp2
                  go_meet
                  case rel => exact ⟨by rw [hN2], BW, RW, RW, RW, RW, RW, RW⟩
                · obtain rfl : s = b.hi := HRS.out.2
                  rw [show ((3 : Nat) : Int) = 3 from rfl]
                  go_wp2
                  go_meet
                  case rel => exact ⟨by rw [hN2], BW, RW, RW, RW, RW, RW, RW⟩
              case rest =>
                clear hB ra rb rg rh rr
                clear sa ca0 ca1 ca2 ca3
                clear sb cb0 cb1 cb2 cb3
                clear sg cg0 cg1 cg2 cg3
                clear sh ch0
                clear sr cr0 cr1
                obtain ⟨rfl, hB, ra, rb, rg, rh, rr, rs⟩ := hcut
                obtain ⟨sa, ca0, ca1, ca2, ca3⟩ := Fa _ ra
                obtain ⟨sb, cb0, cb1, cb2, cb3⟩ := Fb _ rb
                obtain ⟨sg, cg0, cg1, cg2, cg3⟩ := Fg _ rg
                obtain ⟨sh, ch0⟩ := Fh _ rh
                obtain ⟨sr, cr0, cr1⟩ := Fr _ rr
                have Fs : ∀ X, Row X (N2 + 1) (.cells #[.string (S s.num), .string (S (s.den : Int))] 26) → (N2 + 1 < X.heap.size ∧ X.cell? ⟨N2 + 1, 0, none⟩ = some (.string (S s.num)) ∧ X.cell? ⟨N2 + 1, 1, none⟩ = some (.string (S (s.den : Int)))) := fun X h => ⟨h.1, Row.cell_at h 0 rfl, Row.cell_at h 1 rfl⟩
                obtain ⟨ss, cs0, cs1⟩ := Fs _ rs
                clear hN2 HRS
                go_wp2_with fail
                refine (AD _ (he.env.below hB)).mono ?_
                rintro e W8 ⟨rfl, h1⟩
                clear sa ca0 ca1 ca2 ca3
                clear sb cb0 cb1 cb2 cb3
                clear sg cg0 cg1 cg2 cg3
                clear sh ch0
                clear sr cr0 cr1
                clear ss cs0 cs1
                replace hB := hB.trans (h1.mono hB.size)
                replace ra := Row.below ra h1
                replace rb := Row.below rb h1
                replace rg := Row.below rg h1
                replace rh := Row.below rh h1
                replace rr := Row.below rr h1
                replace rs := Row.below rs h1
                clear h1
                obtain ⟨sa, ca0, ca1, ca2, ca3⟩ := Fa _ ra
                obtain ⟨sb, cb0, cb1, cb2, cb3⟩ := Fb _ rb
                obtain ⟨sg, cg0, cg1, cg2, cg3⟩ := Fg _ rg
                obtain ⟨sh, ch0⟩ := Fh _ rh
                obtain ⟨sr, cr0, cr1⟩ := Fr _ rr
                obtain ⟨ss, cs0, cs1⟩ := Fs _ rs
                clear AD
                go_upto_block 4 with fail
                have da_v : W3.heap.size < W8.heap.size := by omega
                have db_v : W5.heap.size < W8.heap.size := by omega
                have dg_v : g < W8.heap.size := by omega
                have dh_v : h < W8.heap.size := by omega
                have dr_v : N1 + 1 < W8.heap.size := by omega
                have ds_v : N2 + 1 < W8.heap.size := by omega
                have d0_v : w.heap.size ≤ W8.heap.size := by have := hB.size; omega
                have sB := hB.size
                refine wp_cut (fun X => Below w.heap.size w X ∧ Row X W3.heap.size (.cells #[.string (S a.lo.num), .string (S (a.lo.den : Int)), .string (S a.hi.num), .string (S (a.hi.den : Int))] 29) ∧ Row X W5.heap.size (.cells #[.string (S b.lo.num), .string (S (b.lo.den : Int)), .string (S b.hi.num), .string (S (b.hi.den : Int))] 29) ∧ Row X g (.cells gs 29) ∧ Row X h (.cells hs 31) ∧ Row X (N1 + 1) (.cells #[.string (S r.num), .string (S (r.den : Int))] 26) ∧ Row X (N2 + 1) (.cells #[.string (S s.num), .string (S (s.den : Int))] 26) ∧ Row X W8.heap.size (.cells #[.string (S v.num), .string (S (v.den : Int))] 26)) ⟨BW, RW, RW, RW, RW, RW, RW, RW⟩ ?_
                clear ra
                clear sa ca0 ca1 ca2 ca3
                clear rb
                clear sb cb0 cb1 cb2 cb3
                clear rg
                clear sg cg0 cg1 cg2 cg3
                clear rh
                clear sh ch0
                clear rr
                clear sr cr0 cr1
                clear rs
                clear ss cs0 cs1
                clear hB sB
                rintro V9 ⟨hB, ra, rb, rg, rh, rr, rs, rv⟩
                obtain ⟨sa, ca0, ca1, ca2, ca3⟩ := Fa _ ra
                obtain ⟨sb, cb0, cb1, cb2, cb3⟩ := Fb _ rb
                obtain ⟨sg, cg0, cg1, cg2, cg3⟩ := Fg _ rg
                obtain ⟨sh, ch0⟩ := Fh _ rh
                obtain ⟨sr, cr0, cr1⟩ := Fr _ rr
                obtain ⟨ss, cs0, cs1⟩ := Fs _ rs
                have Fv : ∀ X, Row X W8.heap.size (.cells #[.string (S v.num), .string (S (v.den : Int))] 26) → (W8.heap.size < X.heap.size ∧ X.cell? ⟨W8.heap.size, 0, none⟩ = some (.string (S v.num)) ∧ X.cell? ⟨W8.heap.size, 1, none⟩ = some (.string (S (v.den : Int))) ∧ X.frozen? ⟨W8.heap.size, 0, none⟩ = false ∧ X.frozen? ⟨W8.heap.size, 1, none⟩ = false) := fun X h => ⟨h.1, Row.cell_at h 0 rfl, Row.cell_at h 1 rfl, frozen_of_row _ _ 0 _ _ h.2, frozen_of_row _ _ 1 _ _ h.2⟩
                obtain ⟨sv, cv0, cv1, fv0, fv1⟩ := Fv _ rv
                go_cut [] (fun W => Below w.heap.size w W ∧ Row W W3.heap.size (.cells #[.string (S a.lo.num), .string (S (a.lo.den : Int)), .string (S a.hi.num), .string (S (a.hi.den : Int))] 29) ∧ Row W W5.heap.size (.cells #[.string (S b.lo.num), .string (S (b.lo.den : Int)), .string (S b.hi.num), .string (S (b.hi.den : Int))] 29) ∧ Row W g (.cells gs 29) ∧ Row W h (.cells hs 31) ∧ Row W (N1 + 1) (.cells #[.string (S r.num), .string (S (r.den : Int))] 26) ∧ Row W (N2 + 1) (.cells #[.string (S s.num), .string (S (s.den : Int))] 26) ∧ Row W W8.heap.size (.cells #[.string (S q.num), .string (S (q.den : Int))] 26))
                case first =>
                  rcases OPS.out with ⟨h0, hv⟩ | ⟨h0, SU⟩ | ⟨h0, SU⟩ | ⟨h0, SU⟩
                  · subst h0
                    rw [show ((0 : Nat) : Int) = 0 from rfl]
                    subst hv
                    clear OPS CQ DLo DHi KH
                    go_wp2
                    go_meet
                    case rel => exact ⟨BW, RW, RW, RW, RW, RW, RW, RW⟩
                  · subst h0
                    rw [show ((1 : Nat) : Int) = 1 from rfl]
                    unfold QOk Q at SU
                    clear OPS CQ DLo DHi KH
                    go_wp2_with fail
                    refine (SU _ (he.env.below hB)).mono ?_
                    rintro e W10 ⟨rfl, h1⟩
                    clear sa ca0 ca1 ca2 ca3
                    clear sb cb0 cb1 cb2 cb3
                    clear sg cg0 cg1 cg2 cg3
                    clear sh ch0
                    clear sr cr0 cr1
                    clear ss cs0 cs1
                    clear sv cv0 cv1 fv0 fv1
                    replace hB := hB.trans (h1.mono hB.size)
                    replace ra := Row.below ra h1
                    replace rb := Row.below rb h1
                    replace rg := Row.below rg h1
                    replace rh := Row.below rh h1
                    replace rr := Row.below rr h1
                    replace rs := Row.below rs h1
                    replace rv := Row.below rv h1
                    clear h1
                    obtain ⟨sa, ca0, ca1, ca2, ca3⟩ := Fa _ ra
                    obtain ⟨sb, cb0, cb1, cb2, cb3⟩ := Fb _ rb
                    obtain ⟨sg, cg0, cg1, cg2, cg3⟩ := Fg _ rg
                    obtain ⟨sh, ch0⟩ := Fh _ rh
                    obtain ⟨sr, cr0, cr1⟩ := Fr _ rr
                    obtain ⟨ss, cs0, cs1⟩ := Fs _ rs
                    obtain ⟨sv, cv0, cv1, fv0, fv1⟩ := Fv _ rv
                    go_wp2
                    go_meet
                    case rel => exact ⟨BW, RW, RW, RW, RW, RW, RW, RW⟩
                  · subst h0
                    rw [show ((2 : Nat) : Int) = 2 from rfl]
                    unfold QOk Q at SU
                    clear OPS CQ DLo DHi KH
                    go_wp2_with fail
                    refine (SU _ (he.env.below hB)).mono ?_
                    rintro e W10 ⟨rfl, h1⟩
                    clear sa ca0 ca1 ca2 ca3
                    clear sb cb0 cb1 cb2 cb3
                    clear sg cg0 cg1 cg2 cg3
                    clear sh ch0
                    clear sr cr0 cr1
                    clear ss cs0 cs1
                    clear sv cv0 cv1 fv0 fv1
                    replace hB := hB.trans (h1.mono hB.size)
                    replace ra := Row.below ra h1
                    replace rb := Row.below rb h1
                    replace rg := Row.below rg h1
                    replace rh := Row.below rh h1
                    replace rr := Row.below rr h1
                    replace rs := Row.below rs h1
                    replace rv := Row.below rv h1
                    clear h1
                    obtain ⟨sa, ca0, ca1, ca2, ca3⟩ := Fa _ ra
                    obtain ⟨sb, cb0, cb1, cb2, cb3⟩ := Fb _ rb
                    obtain ⟨sg, cg0, cg1, cg2, cg3⟩ := Fg _ rg
                    obtain ⟨sh, ch0⟩ := Fh _ rh
                    obtain ⟨sr, cr0, cr1⟩ := Fr _ rr
                    obtain ⟨ss, cs0, cs1⟩ := Fs _ rs
                    obtain ⟨sv, cv0, cv1, fv0, fv1⟩ := Fv _ rv
                    go_wp2
                    go_meet
                    case rel => exact ⟨BW, RW, RW, RW, RW, RW, RW, RW⟩
                  · subst h0
                    rw [show ((3 : Nat) : Int) = 3 from rfl]
                    unfold QOk Q at SU
                    clear OPS CQ DLo DHi KH
                    go_wp2_with fail
                    refine (SU _ (he.env.below hB)).mono ?_
                    rintro e W10 ⟨rfl, h1⟩
                    clear sa ca0 ca1 ca2 ca3
                    clear sb cb0 cb1 cb2 cb3
                    clear sg cg0 cg1 cg2 cg3
                    clear sh ch0
                    clear sr cr0 cr1
                    clear ss cs0 cs1
                    clear sv cv0 cv1 fv0 fv1
                    replace hB := hB.trans (h1.mono hB.size)
                    replace ra := Row.below ra h1
                    replace rb := Row.below rb h1
                    replace rg := Row.below rg h1
                    replace rh := Row.below rh h1
                    replace rr := Row.below rr h1
                    replace rs := Row.below rs h1
                    replace rv := Row.below rv h1
                    clear h1
                    obtain ⟨sa, ca0, ca1, ca2, ca3⟩ := Fa _ ra
                    obtain ⟨sb, cb0, cb1, cb2, cb3⟩ := Fb _ rb
                    obtain ⟨sg, cg0, cg1, cg2, cg3⟩ := Fg _ rg
                    obtain ⟨sh, ch0⟩ := Fh _ rh
                    obtain ⟨sr, cr0, cr1⟩ := Fr _ rr
                    obtain ⟨ss, cs0, cs1⟩ := Fs _ rs
                    obtain ⟨sv, cv0, cv1, fv0, fv1⟩ := Fv _ rv
                    go_wp2
                    go_meet
                    case rel => exact ⟨BW, RW, RW, RW, RW, RW, RW, RW⟩
                case rest =>
                  clear hB ra rb rg rh rr rs rv
                  clear sa ca0 ca1 ca2 ca3
                  clear sb cb0 cb1 cb2 cb3
                  clear sg cg0 cg1 cg2 cg3
                  clear sh ch0
                  clear sr cr0 cr1
                  clear ss cs0 cs1
                  clear sv cv0 cv1 fv0 fv1
                  obtain ⟨hB, ra, rb, rg, rh, rr, rs, rv⟩ := hcut
                  skip
                  obtain ⟨sa, ca0, ca1, ca2, ca3⟩ := Fa _ ra
                  obtain ⟨sb, cb0, cb1, cb2, cb3⟩ := Fb _ rb
                  obtain ⟨sg, cg0, cg1, cg2, cg3⟩ := Fg _ rg
                  obtain ⟨sh, ch0⟩ := Fh _ rh
                  obtain ⟨sr, cr0, cr1⟩ := Fr _ rr
                  obtain ⟨ss, cs0, cs1⟩ := Fs _ rs
                  clear Fv
                  have Fv : ∀ X, Row X W8.heap.size (.cells #[.string (S q.num), .string (S (q.den : Int))] 26) → (W8.heap.size < X.heap.size ∧ X.cell? ⟨W8.heap.size, 0, none⟩ = some (.string (S q.num)) ∧ X.cell? ⟨W8.heap.size, 1, none⟩ = some (.string (S (q.den : Int))) ∧ X.frozen? ⟨W8.heap.size, 0, none⟩ = false ∧ X.frozen? ⟨W8.heap.size, 1, none⟩ = false) := fun X h => ⟨h.1, Row.cell_at h 0 rfl, Row.cell_at h 1 rfl, frozen_of_row _ _ 0 _ _ h.2, frozen_of_row _ _ 1 _ _ h.2⟩
                  obtain ⟨sv, cv0, cv1, fv0, fv1⟩ := Fv _ rv
                  clear OPS
                  go_upto_region 26 with fail
                  go_cut [11] (fun s11 W => s11 = .bool (l || decide (q = o.lo)) ∧ Below w.heap.size w W ∧ Row W W3.heap.size (.cells #[.string (S a.lo.num), .string (S (a.lo.den : Int)), .string (S a.hi.num), .string (S (a.hi.den : Int))] 29) ∧ Row W W5.heap.size (.cells #[.string (S b.lo.num), .string (S (b.lo.den : Int)), .string (S b.hi.num), .string (S (b.hi.den : Int))] 29) ∧ Row W g (.cells gs 29) ∧ Row W h (.cells hs 31) ∧ Row W (N1 + 1) (.cells #[.string (S r.num), .string (S (r.den : Int))] 26) ∧ Row W (N2 + 1) (.cells #[.string (S s.num), .string (S (s.den : Int))] 26) ∧ Row W W8.heap.size (.cells #[.string (S q.num), .string (S (q.den : Int))] 26))
                  case first =>
                    cases l
                    · have QB := Lib.hid (q_if q o.lo)
                      clear DLo DHi KH DA CQ
                      go_wp2_with fail
                      refine wp_region_items 10 [.val (.bool false), .val (.bool false), .val (.agg #[.string (S q.num), .string (S (q.den : Int))]), .val (.slice (some ⟨g, 0, none⟩) 8 gc), .val (.int .i64 (i : Int)), .val (.pointer (some ⟨g, i * 4, none⟩)), .val (.pointer (some ⟨g, i * 4, none⟩)), .val (.agg #[.string (S o.lo.num), .string (S (o.lo.den : Int))]), .val (.bool (decide (q = o.lo))), .val (.bool (decide (q = o.lo)))] (by kernel_rfl) (by kernel_rfl) trivial (allItems.cons qi0 (allItems.cons qi0 (allItems.cons (qi1 fun X h => Fv X (Row.below rv h)) (allItems.cons qi0 (allItems.cons qi0 (allItems.cons (qif hlt8) (allItems.cons qi0 (allItems.cons (qi1 fun X h => Fg X (Row.below rg h)) (allItems.cons (qif QB.out) (allItems.cons (qif hlt8) trivial)))))))))) ?_
                      rintro W h1
                      clear sa ca0 ca1 ca2 ca3
                      clear sb cb0 cb1 cb2 cb3
                      clear sg cg0 cg1 cg2 cg3
                      clear sh ch0
                      clear sr cr0 cr1
                      clear ss cs0 cs1
                      clear sv cv0 cv1 fv0 fv1
                      replace hB := hB.trans (h1.mono hB.size)
                      replace ra := Row.below ra h1
                      replace rb := Row.below rb h1
                      replace rg := Row.below rg h1
                      replace rh := Row.below rh h1
                      replace rr := Row.below rr h1
                      replace rs := Row.below rs h1
                      replace rv := Row.below rv h1
                      clear h1
                      obtain ⟨sa, ca0, ca1, ca2, ca3⟩ := Fa _ ra
                      obtain ⟨sb, cb0, cb1, cb2, cb3⟩ := Fb _ rb
                      obtain ⟨sg, cg0, cg1, cg2, cg3⟩ := Fg _ rg
                      obtain ⟨sh, ch0⟩ := Fh _ rh
                      obtain ⟨sr, cr0, cr1⟩ := Fr _ rr
                      obtain ⟨ss, cs0, cs1⟩ := Fs _ rs
                      obtain ⟨sv, cv0, cv1, fv0, fv1⟩ := Fv _ rv
                      simp only [setItems, List.setIfInBounds_toArray, List.set_cons_succ, List.set_cons_zero, List.take_succ_cons, List.take_zero, List.drop_succ_cons, List.drop_zero]
                      go_wp2
                      go_meet
                      case rel => exact ⟨(by simp), BW, RW, RW, RW, RW, RW, RW, RW⟩
                    · clear DLo DHi KH DA CQ
                      go_wp2_with fail
                      refine wp_region_items 10 [.val (.bool true), .val (.bool true), .val (undef), .val (undef), .val (undef), .val (undef), .val (undef), .val (undef), .val (undef), .val (.bool true)] (by kernel_rfl) (by kernel_rfl) trivial (allItems.cons qi0 (allItems.cons qi0 (allItems.cons qi0 (allItems.cons qi0 (allItems.cons qi0 (allItems.cons qi0 (allItems.cons qi0 (allItems.cons qi0 (allItems.cons qi0 (allItems.cons (qif hlt8) trivial)))))))))) ?_
                      rintro W h1
                      clear sa ca0 ca1 ca2 ca3
                      clear sb cb0 cb1 cb2 cb3
                      clear sg cg0 cg1 cg2 cg3
                      clear sh ch0
                      clear sr cr0 cr1
                      clear ss cs0 cs1
                      clear sv cv0 cv1 fv0 fv1
                      replace hB := hB.trans (h1.mono hB.size)
                      replace ra := Row.below ra h1
                      replace rb := Row.below rb h1
                      replace rg := Row.below rg h1
                      replace rh := Row.below rh h1
                      replace rr := Row.below rr h1
                      replace rs := Row.below rs h1
                      replace rv := Row.below rv h1
                      clear h1
                      obtain ⟨sa, ca0, ca1, ca2, ca3⟩ := Fa _ ra
                      obtain ⟨sb, cb0, cb1, cb2, cb3⟩ := Fb _ rb
                      obtain ⟨sg, cg0, cg1, cg2, cg3⟩ := Fg _ rg
                      obtain ⟨sh, ch0⟩ := Fh _ rh
                      obtain ⟨sr, cr0, cr1⟩ := Fr _ rr
                      obtain ⟨ss, cs0, cs1⟩ := Fs _ rs
                      obtain ⟨sv, cv0, cv1, fv0, fv1⟩ := Fv _ rv
                      simp only [setItems, List.setIfInBounds_toArray, List.set_cons_succ, List.set_cons_zero, List.take_succ_cons, List.take_zero, List.drop_succ_cons, List.drop_zero]
                      go_wp2
                      go_meet
                      case rel => exact ⟨(by simp), BW, RW, RW, RW, RW, RW, RW, RW⟩
                  case rest =>
                    clear hB ra rb rg rh rr rs rv
                    clear sa ca0 ca1 ca2 ca3
                    clear sb cb0 cb1 cb2 cb3
                    clear sg cg0 cg1 cg2 cg3
                    clear sh ch0
                    clear sr cr0 cr1
                    clear ss cs0 cs1
                    clear sv cv0 cv1 fv0 fv1
                    obtain ⟨rfl, hB, ra, rb, rg, rh, rr, rs, rv⟩ := hcut
                    have sB := hB.size
                    clear sB
                    obtain ⟨sa, ca0, ca1, ca2, ca3⟩ := Fa _ ra
                    obtain ⟨sb, cb0, cb1, cb2, cb3⟩ := Fb _ rb
                    obtain ⟨sg, cg0, cg1, cg2, cg3⟩ := Fg _ rg
                    obtain ⟨sh, ch0⟩ := Fh _ rh
                    obtain ⟨sr, cr0, cr1⟩ := Fr _ rr
                    obtain ⟨ss, cs0, cs1⟩ := Fs _ rs
                    obtain ⟨sv, cv0, cv1, fv0, fv1⟩ := Fv _ rv
                    go_upto_region 27 with fail
                    go_cut [12] (fun s12 W => s12 = .bool (m || decide (q = o.hi)) ∧ Below w.heap.size w W ∧ Row W W3.heap.size (.cells #[.string (S a.lo.num), .string (S (a.lo.den : Int)), .string (S a.hi.num), .string (S (a.hi.den : Int))] 29) ∧ Row W W5.heap.size (.cells #[.string (S b.lo.num), .string (S (b.lo.den : Int)), .string (S b.hi.num), .string (S (b.hi.den : Int))] 29) ∧ Row W g (.cells gs 29) ∧ Row W h (.cells hs 31) ∧ Row W (N1 + 1) (.cells #[.string (S r.num), .string (S (r.den : Int))] 26) ∧ Row W (N2 + 1) (.cells #[.string (S s.num), .string (S (s.den : Int))] 26) ∧ Row W W8.heap.size (.cells #[.string (S q.num), .string (S (q.den : Int))] 26))
                    case first =>
                      cases m
                      · have QB := Lib.hid (q_if q o.hi)
                        clear DLo DHi KH DA CQ
                        go_wp2_with fail
                        refine wp_region_items 10 [.val (.bool false), .val (.bool false), .val (.agg #[.string (S q.num), .string (S (q.den : Int))]), .val (.slice (some ⟨g, 0, none⟩) 8 gc), .val (.int .i64 (i : Int)), .val (.pointer (some ⟨g, i * 4, none⟩)), .val (.pointer (some ⟨g, i * 4 + 2, none⟩)), .val (.agg #[.string (S o.hi.num), .string (S (o.hi.den : Int))]), .val (.bool (decide (q = o.hi))), .val (.bool (decide (q = o.hi)))] (by kernel_rfl) (by kernel_rfl) trivial (allItems.cons qi0 (allItems.cons qi0 (allItems.cons (qi1 fun X h => Fv X (Row.below rv h)) (allItems.cons qi0 (allItems.cons qi0 (allItems.cons (qif hlt8) (allItems.cons qi0 (allItems.cons (qi1 fun X h => Fg X (Row.below rg h)) (allItems.cons (qif QB.out) (allItems.cons (qif hlt8) trivial)))))))))) ?_
                        rintro W h1
                        clear sa ca0 ca1 ca2 ca3
                        clear sb cb0 cb1 cb2 cb3
                        clear sg cg0 cg1 cg2 cg3
                        clear sh ch0
                        clear sr cr0 cr1
                        clear ss cs0 cs1
                        clear sv cv0 cv1 fv0 fv1
                        replace hB := hB.trans (h1.mono hB.size)
                        replace ra := Row.below ra h1
                        replace rb := Row.below rb h1
                        replace rg := Row.below rg h1
                        replace rh := Row.below rh h1
                        replace rr := Row.below rr h1
                        replace rs := Row.below rs h1
                        replace rv := Row.below rv h1
                        clear h1
                        obtain ⟨sa, ca0, ca1, ca2, ca3⟩ := Fa _ ra
                        obtain ⟨sb, cb0, cb1, cb2, cb3⟩ := Fb _ rb
                        obtain ⟨sg, cg0, cg1, cg2, cg3⟩ := Fg _ rg
                        obtain ⟨sh, ch0⟩ := Fh _ rh
                        obtain ⟨sr, cr0, cr1⟩ := Fr _ rr
                        obtain ⟨ss, cs0, cs1⟩ := Fs _ rs
                        obtain ⟨sv, cv0, cv1, fv0, fv1⟩ := Fv _ rv
                        simp only [setItems, List.setIfInBounds_toArray, List.set_cons_succ, List.set_cons_zero, List.take_succ_cons, List.take_zero, List.drop_succ_cons, List.drop_zero]
                        go_wp2
                        go_meet
                        case rel => exact ⟨(by simp), BW, RW, RW, RW, RW, RW, RW, RW⟩
                      · clear DLo DHi KH DA CQ
                        go_wp2_with fail
                        refine wp_region_items 10 [.val (.bool true), .val (.bool true), .val (undef), .val (undef), .val (undef), .val (undef), .val (undef), .val (undef), .val (undef), .val (.bool true)] (by kernel_rfl) (by kernel_rfl) trivial (allItems.cons qi0 (allItems.cons qi0 (allItems.cons qi0 (allItems.cons qi0 (allItems.cons qi0 (allItems.cons qi0 (allItems.cons qi0 (allItems.cons qi0 (allItems.cons qi0 (allItems.cons (qif hlt8) trivial)))))))))) ?_
                        rintro W h1
                        clear sa ca0 ca1 ca2 ca3
                        clear sb cb0 cb1 cb2 cb3
                        clear sg cg0 cg1 cg2 cg3
                        clear sh ch0
                        clear sr cr0 cr1
                        clear ss cs0 cs1
                        clear sv cv0 cv1 fv0 fv1
                        replace hB := hB.trans (h1.mono hB.size)
                        replace ra := Row.below ra h1
                        replace rb := Row.below rb h1
                        replace rg := Row.below rg h1
                        replace rh := Row.below rh h1
                        replace rr := Row.below rr h1
                        replace rs := Row.below rs h1
                        replace rv := Row.below rv h1
                        clear h1
                        obtain ⟨sa, ca0, ca1, ca2, ca3⟩ := Fa _ ra
                        obtain ⟨sb, cb0, cb1, cb2, cb3⟩ := Fb _ rb
                        obtain ⟨sg, cg0, cg1, cg2, cg3⟩ := Fg _ rg
                        obtain ⟨sh, ch0⟩ := Fh _ rh
                        obtain ⟨sr, cr0, cr1⟩ := Fr _ rr
                        obtain ⟨ss, cs0, cs1⟩ := Fs _ rs
                        obtain ⟨sv, cv0, cv1, fv0, fv1⟩ := Fv _ rv
                        simp only [setItems, List.setIfInBounds_toArray, List.set_cons_succ, List.set_cons_zero, List.take_succ_cons, List.take_zero, List.drop_succ_cons, List.drop_zero]
                        go_wp2
                        go_meet
                        case rel => exact ⟨(by simp), BW, RW, RW, RW, RW, RW, RW, RW⟩
                    case rest =>
                      clear hB ra rb rg rh rr rs rv
                      clear sa ca0 ca1 ca2 ca3
                      clear sb cb0 cb1 cb2 cb3
                      clear sg cg0 cg1 cg2 cg3
                      clear sh ch0
                      clear sr cr0 cr1
                      clear ss cs0 cs1
                      clear sv cv0 cv1 fv0 fv1
                      obtain ⟨rfl, hB, ra, rb, rg, rh, rr, rs, rv⟩ := hcut
                      have sB := hB.size
                      clear sB
                      obtain ⟨sa, ca0, ca1, ca2, ca3⟩ := Fa _ ra
                      obtain ⟨sb, cb0, cb1, cb2, cb3⟩ := Fb _ rb
                      obtain ⟨sg, cg0, cg1, cg2, cg3⟩ := Fg _ rg
                      obtain ⟨sh, ch0⟩ := Fh _ rh
                      obtain ⟨sr, cr0, cr1⟩ := Fr _ rr
                      obtain ⟨ss, cs0, cs1⟩ := Fs _ rs
                      obtain ⟨sv, cv0, cv1, fv0, fv1⟩ := Fv _ rv
                      go_wp2_with fail
                      refine wp_region_vals [.slice (some ⟨g, 0, none⟩) 8 gc, .int .i64 (i : Int), .pointer (some ⟨g, i * 4, none⟩), .agg #[.string (S o.lo.num), .string (S (o.lo.den : Int)), .string (S o.hi.num), .string (S (o.hi.den : Int))], .agg #[.string (S q.num), .string (S (q.den : Int))], .bool true, .bool false] (by kernel_rfl) (by kernel_rfl) rfl (allVals.cons qv0 (allVals.cons qv0 (allVals.cons (qvf hlt8) (allVals.cons (qv1 fun X h => Fg X (Row.below rg h)) (allVals.cons (qv1 fun X h => Fv X (Row.below rv h)) (allVals.cons (qv2 fun X h => CQ X (he.env.below (hB.trans (h.mono hB.size)))) (allVals.cons (qvf hlt8) trivial))))))) ?_
                      rintro W h1
                      clear sa ca0 ca1 ca2 ca3
                      clear sb cb0 cb1 cb2 cb3
                      clear sg cg0 cg1 cg2 cg3
                      clear sh ch0
                      clear sr cr0 cr1
                      clear ss cs0 cs1
                      clear sv cv0 cv1 fv0 fv1
                      replace hB := hB.trans (h1.mono hB.size)
                      replace ra := Row.below ra h1
                      replace rb := Row.below rb h1
                      replace rg := Row.below rg h1
                      replace rh := Row.below rh h1
                      replace rr := Row.below rr h1
                      replace rs := Row.below rs h1
                      replace rv := Row.below rv h1
                      clear h1
                      obtain ⟨sa, ca0, ca1, ca2, ca3⟩ := Fa _ ra
                      obtain ⟨sb, cb0, cb1, cb2, cb3⟩ := Fb _ rb
                      obtain ⟨sg, cg0, cg1, cg2, cg3⟩ := Fg _ rg
                      obtain ⟨sh, ch0⟩ := Fh _ rh
                      obtain ⟨sr, cr0, cr1⟩ := Fr _ rr
                      obtain ⟨ss, cs0, cs1⟩ := Fs _ rs
                      obtain ⟨sv, cv0, cv1, fv0, fv1⟩ := Fv _ rv
                      simp only [setVals, List.setIfInBounds_toArray, List.set_cons_succ, List.set_cons_zero]
                      go_wp2
                      go_roundw
                      case rel => exact ⟨k + 1, _, _, rfl, rfl, by go_num, by omega, DLo.out, DHi.out, BW, RW, RW, RW, RW⟩
                      case measure => simp [intOf]; omega
          · have hll := DLo.all hkg
            have hmm := DHi.all hkg
            subst hll hmm
            obtain rfl : k = 4 := by omega
            obtain ⟨sa, ca0, ca1, ca2, ca3⟩ := Fa _ ra
            obtain ⟨sb, cb0, cb1, cb2, cb3⟩ := Fb _ rb
            obtain ⟨sg, cg0, cg1, cg2, cg3⟩ := Fg _ rg
            obtain ⟨sh, ch0⟩ := Fh _ rh
            go_wp2
            go_roundw
            case rel => exact ⟨i + 1, by go_num, by omega, BW, RW, RW, RW, RW⟩
            case measure => simp [intOf]; omega
    · obtain rfl : i = 4 := by omega
      obtain ⟨sa, ca0, ca1, ca2, ca3⟩ := Fa _ ra
      obtain ⟨sb, cb0, cb1, cb2, cb3⟩ := Fb _ rb
      have sg := Fg _ rg
      have sh := Fh _ rh
      go_wp2
      go_ret
      exact ⟨rfl, hB⟩
end Go.Proofs.YtngohpgkceedeaaGreatDoor
