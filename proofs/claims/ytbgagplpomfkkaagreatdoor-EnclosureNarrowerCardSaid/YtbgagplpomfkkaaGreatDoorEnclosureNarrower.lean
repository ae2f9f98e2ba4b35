/-
  EnclosureNarrower: the walk.
-/
import Derived.Test.YtbgagplpomfkkaaGreatDoorSane5
import Derived.Test.YtbgagplpomfkkaaGreatDoorECalls
import Derived.Test.YtbgagplpomfkkaaGreatDoorECallsFacts
import Derived.Deep.RegionHeld3
import Derived.Test.YtbgagplpomfkkaaGreatDoorQuiet
set_option linter.unusedSimpArgs false
set_option linter.unusedVariables false
namespace Go.Proofs.YtbgagplpomfkkaaGreatDoor
open Go Go.RowKit Go.Lib Go.Shelf

theorem npick (c n : Int) (hc : IsInt c) (hn : 0 < n) (hn2 : n ≤ 1000000) (w : World) : Calls Tryz.prog 10 #[.int .i64 c, .int .i64 n] w fun e w' => ∃ p : Nat, (p : Int) < n ∧ e = .returned (.int .i64 (p : Int)) ∧ Below w.heap.size w w' :=
  (pickL c n hc hn hn2 w).mono fun e w' ⟨⟨r, h1, h2⟩, h3⟩ => ⟨r, h2, h1, h3 ▸ Below.refl _ _⟩
theorem nratio (p : Nat) (h : (p : Int) < 200) (w : World) : Calls Tryz.prog 15 #[.int .i64 (p : Int), .int .i64 60] w fun e w' => ∃ q : Rat, (0 ≤ q ∧ QDig 3 q) ∧ e = .returned (.agg #[.string (S q.num), .string (S (q.den : Int))]) ∧ Below w.heap.size w w' :=
  (lratio (n := p) (d := 60) ⟨by omega, by omega⟩ ⟨by omega, by omega⟩ (by omega) w).mono fun e w' ⟨h1, h2⟩ => ⟨_, ⟨divInt_nonneg' (by omega) (by omega), small_dig (by omega) (by omega) (by omega)⟩, h1, h2⟩
theorem nsub {x : Rat} (dx : QDig 3 x) (q : Rat) (hq : 0 ≤ q ∧ QDig 3 q) (w : World) (he : Env w) : Calls Tryz.prog 17 #[.agg #[.string (S x.num), .string (S (x.den : Int))], .agg #[.string (S q.num), .string (S (q.den : Int))]] w
    fun e w' => ∃ r : Rat, (r ≤ x ∧ QDig 7 r) ∧ e = .returned (.tuple #[.agg #[.string (S r.num), .string (S (r.den : Int))], .int .i64 0]) ∧ Below w.heap.size w w' :=
  (qsub dx hq.2 (by omega) w he).mono fun e w' ⟨h1, h2⟩ => ⟨x - q, ⟨by have := hq.1; grind, (dx.sub hq.2).mono (by omega)⟩, h1, h2⟩
theorem nadd {x : Rat} (dx : QDig 3 x) (q : Rat) (hq : 0 ≤ q ∧ QDig 3 q) (w : World) (he : Env w) : Calls Tryz.prog 23 #[.agg #[.string (S x.num), .string (S (x.den : Int))], .agg #[.string (S q.num), .string (S (q.den : Int))]] w
    fun e w' => ∃ r : Rat, (x ≤ r ∧ QDig 7 r) ∧ e = .returned (.tuple #[.agg #[.string (S r.num), .string (S (r.den : Int))], .int .i64 0]) ∧ Below w.heap.size w w' :=
  (qadd dx hq.2 (by omega) w he).mono fun e w' ⟨h1, h2⟩ => ⟨x + q, ⟨by have := hq.1; grind, (dx.add hq.2).mono (by omega)⟩, h1, h2⟩
theorem ncalls {a0 : Addr} {a b : Iv} {p : Nat} (da : IDig 7 a) (db : IDig 7 b) (oa : a.Ok) (ob : b.Ok) (hp : (p : Int) < 12) (w : World) (he : EnvE a0 w) : Calls Tryz.prog 27 #[I a, I b, .int .i64 (p : Int)] w
    fun e w' => ∃ (f : Nat → Option Iv) (g gc : Nat) (gs : Array Value) (h hc : Nat) (hs : Array Value), (∀ k, k < 8 → OpRes k a b (TT p) (f k)) ∧ e = .returned (.tuple #[.slice (some ⟨g, 0, none⟩) 8 gc, .slice (some ⟨h, 0, none⟩) 8 hc])
      ∧ Row w' g (.cells gs 29) ∧ Row w' h (.cells hs 31)
      ∧ gs.toList.take 32 = oCells [f 0, f 1, f 2, f 3, f 4, f 5, f 6, f 7] ∧ hs.toList.take 8 = oErrs [f 0, f 1, f 2, f 3, f 4, f 5, f 6, f 7] ∧ Below w.heap.size w w' :=
  (ecalls p da db oa ob (by omega) (by omega) (by omega) w he).mono fun e w' hh => by
    obtain ⟨f, g, gc, gs, h, hc, hs, hf, rfl, _, _, rg, rh, xg, xh, hb⟩ := callsOk.open hh
    exact ⟨f, g, gc, gs, h, hc, hs, hf, rfl, rg, rh, xg, xh, hb⟩
theorem nkey {a b c d : Iv} {p : Nat} (da : IDig 7 a) (db : IDig 7 b) (dc : IDig 7 c) (dd : IDig 7 d) (oa : a.Ok) (ob : b.Ok) (oc : c.Ok) (od : d.Ok) (sc : a.Sub c) (sd : b.Sub d) (hp : (p : Int) < 12) :
    ∀ k, k < 8 → ∀ o o', OpRes k a b (TT p) o → OpRes k c d (TT p) o' → o' = none ∨ (∃ s t, o = some s ∧ o' = some t ∧ s.Ok ∧ IDig 50 s ∧ IDig 50 t ∧ s.Sub t) ∨ (∃ t, k = 5 ∧ o = none ∧ o' = some t) := by
  intro k hk o o' h h'
  rcases o' with _ | t
  · exact .inl rfl
  · rcases OpRes.sub (TT_pos p) oa ob sc sd h h' with ⟨s, rfl, hs⟩ | ⟨h5, rfl⟩
    · exact .inr (.inl ⟨s, t, rfl, rfl, h.ok (TT_pos p) oa ob, (h.dig (by omega) ob da db).mono (by omega), (h'.dig (by omega) od dc dd).mono (by omega), hs⟩)
    · exact .inr (.inr ⟨t, h5, rfl, rfl⟩)
set_option maxRecDepth 100000 in
set_option maxHeartbeats 16000000 in
theorem enclosureNarrower_any {a0 : Addr} (x0 x1 x2 x3 y0 y1 y2 y3 z0 z1 z2 z3 pl : Int) (hx : IsInt x0 ∧ IsInt x1 ∧ IsInt x2 ∧ IsInt x3) (hy : IsInt y0 ∧ IsInt y1 ∧ IsInt y2 ∧ IsInt y3) (hz : IsInt z0 ∧ IsInt z1 ∧ IsInt z2 ∧ IsInt z3) (hp : IsInt pl) (w : World) (he : EnvE a0 w) :
    Calls Tryz.prog 8 #[.agg #[.int .i64 x0, .int .i64 x1, .int .i64 x2, .int .i64 x3], .agg #[.int .i64 y0, .int .i64 y1, .int .i64 y2, .int .i64 y3], .agg #[.int .i64 z0, .int .i64 z1, .int .i64 z2, .int .i64 z3], .int .i64 pl] w (BoolOk true w) := by
  have hB : Below w.heap.size w w := Below.refl _ _
  have MS := fun W (h : EnvE a0 W) => sane5 W h
  have MX := fun W => rmade x0 x1 x2 x3 hx.1 hx.2.1 hx.2.2.1 hx.2.2.2 W
  have MY := fun W => rmade y0 y1 y2 y3 hy.1 hy.2.1 hy.2.2.1 hy.2.2.2 W
  unfold BoolOk at MS
  unfold ivIs I at MX MY
  clear hx hy
  have PK := fun (c : Int) (hc : IsInt c) W => npick c 200 hc (by omega) (by omega) W
  have PP := fun W => npick pl 12 hp (by omega) (by omega) W
  have RA := fun (p : Nat) (h : (p : Int) < 200) W => nratio p h W
  go_enter Tryz.func8, Tryz.ntmps8
  go_wp2_with fail
  have sB := hB.size
  refine world_cut (fun X => Below w.heap.size w X ∧ Row X w.heap.size (.cells #[.int .i64 x0, .int .i64 x1, .int .i64 x2, .int .i64 x3] 22) ∧ Row X (w.heap.size + 1) (.cells #[.int .i64 y0, .int .i64 y1, .int .i64 y2, .int .i64 y3] 22) ∧ Row X (w.heap.size + 1 + 1) (.cells #[.int .i64 z0, .int .i64 z1, .int .i64 z2, .int .i64 z3] 22)) ⟨(by repeat (first | (with_reducible exact hB) | (with_reducible exact Below.refl _ _) | (with_reducible refine Below.drew ?_) | (with_reducible refine below_drewN ?_ _) | (with_reducible refine Below.alloc ?_ (by first | omega | (simp; done) | (simp; omega)) _) | (with_reducible refine Below.setCell ?_ (by first | omega | (simp; done) | (simp; omega)) _))), (by repeat (first | (with_reducible exact row_new' (by first | omega | (simp; done) | (simp; omega))) | (with_reducible refine Row.drew ?_) | (with_reducible refine Row.drewN ?_ _) | (with_reducible refine Row.alloc ?_ _) | (with_reducible apply Row.set4) | (with_reducible apply Row.set4a) | (with_reducible apply Row.set4b) | (with_reducible apply Row.set2) | (with_reducible apply Row.set1) | (with_reducible refine Row.set_other ?_ _ (by first | omega | (simp; done) | (simp; omega))))), (by repeat (first | (with_reducible exact row_new' (by first | omega | (simp; done) | (simp; omega))) | (with_reducible refine Row.drew ?_) | (with_reducible refine Row.drewN ?_ _) | (with_reducible refine Row.alloc ?_ _) | (with_reducible apply Row.set4) | (with_reducible apply Row.set4a) | (with_reducible apply Row.set4b) | (with_reducible apply Row.set2) | (with_reducible apply Row.set1) | (with_reducible refine Row.set_other ?_ _ (by first | omega | (simp; done) | (simp; omega))))), (by repeat (first | (with_reducible exact row_new' (by first | omega | (simp; done) | (simp; omega))) | (with_reducible refine Row.drew ?_) | (with_reducible refine Row.drewN ?_ _) | (with_reducible refine Row.alloc ?_ _) | (with_reducible apply Row.set4) | (with_reducible apply Row.set4a) | (with_reducible apply Row.set4b) | (with_reducible apply Row.set2) | (with_reducible apply Row.set1) | (with_reducible refine Row.set_other ?_ _ (by first | omega | (simp; done) | (simp; omega)))))⟩ ?_
  clear hB sB
  rintro V1 ⟨hB, rx, ry, rz⟩
  have Fx : ∀ X, Row X w.heap.size (.cells #[.int .i64 x0, .int .i64 x1, .int .i64 x2, .int .i64 x3] 22) → (w.heap.size < X.heap.size ∧ X.cell? ⟨w.heap.size, 0, none⟩ = some (.int .i64 x0) ∧ X.cell? ⟨w.heap.size, 1, none⟩ = some (.int .i64 x1) ∧ X.cell? ⟨w.heap.size, 2, none⟩ = some (.int .i64 x2) ∧ X.cell? ⟨w.heap.size, 3, none⟩ = some (.int .i64 x3)) := fun X h => ⟨h.1, Row.cell_at h 0 rfl, Row.cell_at h 1 rfl, Row.cell_at h 2 rfl, Row.cell_at h 3 rfl⟩
  obtain ⟨sx, cx0, cx1, cx2, cx3⟩ := Fx _ rx
  have Fy : ∀ X, Row X (w.heap.size + 1) (.cells #[.int .i64 y0, .int .i64 y1, .int .i64 y2, .int .i64 y3] 22) → (w.heap.size + 1 < X.heap.size ∧ X.cell? ⟨w.heap.size + 1, 0, none⟩ = some (.int .i64 y0) ∧ X.cell? ⟨w.heap.size + 1, 1, none⟩ = some (.int .i64 y1) ∧ X.cell? ⟨w.heap.size + 1, 2, none⟩ = some (.int .i64 y2) ∧ X.cell? ⟨w.heap.size + 1, 3, none⟩ = some (.int .i64 y3)) := fun X h => ⟨h.1, Row.cell_at h 0 rfl, Row.cell_at h 1 rfl, Row.cell_at h 2 rfl, Row.cell_at h 3 rfl⟩
  obtain ⟨sy, cy0, cy1, cy2, cy3⟩ := Fy _ ry
  have Fz : ∀ X, Row X (w.heap.size + 1 + 1) (.cells #[.int .i64 z0, .int .i64 z1, .int .i64 z2, .int .i64 z3] 22) → (w.heap.size + 1 + 1 < X.heap.size ∧ X.cell? ⟨w.heap.size + 1 + 1, 0, none⟩ = some (.int .i64 z0) ∧ X.cell? ⟨w.heap.size + 1 + 1, 1, none⟩ = some (.int .i64 z1) ∧ X.cell? ⟨w.heap.size + 1 + 1, 2, none⟩ = some (.int .i64 z2) ∧ X.cell? ⟨w.heap.size + 1 + 1, 3, none⟩ = some (.int .i64 z3)) := fun X h => ⟨h.1, Row.cell_at h 0 rfl, Row.cell_at h 1 rfl, Row.cell_at h 2 rfl, Row.cell_at h 3 rfl⟩
  obtain ⟨sz, cz0, cz1, cz2, cz3⟩ := Fz _ rz
  refine (MS _ (he.below hB)).mono ?_
  rintro e W2 ⟨rfl, h1⟩
  clear sx cx0 cx1 cx2 cx3
  clear sy cy0 cy1 cy2 cy3
  clear sz cz0 cz1 cz2 cz3
  replace hB := hB.trans (h1.mono hB.size)
  replace rx := Row.below rx h1
  replace ry := Row.below ry h1
  replace rz := Row.below rz h1
  clear h1
  obtain ⟨sx, cx0, cx1, cx2, cx3⟩ := Fx _ rx
  obtain ⟨sy, cy0, cy1, cy2, cy3⟩ := Fy _ ry
  obtain ⟨sz, cz0, cz1, cz2, cz3⟩ := Fz _ rz
  go_wp2_with fail
  clear rx
  clear sx cx0 cx1 cx2 cx3
  clear Fx
  refine (MX _).mono ?_
  rintro e W3 ⟨a, ⟨da, oa⟩, rfl, h1⟩
  clear sy cy0 cy1 cy2 cy3
  clear sz cz0 cz1 cz2 cz3
  replace hB := hB.trans (h1.mono hB.size)
  replace ry := Row.below ry h1
  replace rz := Row.below rz h1
  clear h1
  obtain ⟨sy, cy0, cy1, cy2, cy3⟩ := Fy _ ry
  obtain ⟨sz, cz0, cz1, cz2, cz3⟩ := Fz _ rz
  clear MS MX
  go_wp2_with fail
  clear Fy
  have sB := hB.size
  refine world_cut (fun X => Below w.heap.size w X ∧ Row X (w.heap.size + 1 + 1) (.cells #[.int .i64 z0, .int .i64 z1, .int .i64 z2, .int .i64 z3] 22) ∧ Row X W3.heap.size (.cells #[.string (S a.lo.num), .string (S (a.lo.den : Int)), .string (S a.hi.num), .string (S (a.hi.den : Int))] 29)) ⟨(by repeat (first | (with_reducible exact hB) | (with_reducible exact Below.refl _ _) | (with_reducible refine Below.drew ?_) | (with_reducible refine below_drewN ?_ _) | (with_reducible refine Below.alloc ?_ (by first | omega | (simp; done) | (simp; omega)) _) | (with_reducible refine Below.setCell ?_ (by first | omega | (simp; done) | (simp; omega)) _))), (by repeat (first | (with_reducible exact rz) | (with_reducible exact row_new' (by first | omega | (simp; done) | (simp; omega))) | (with_reducible refine Row.drew ?_) | (with_reducible refine Row.drewN ?_ _) | (with_reducible refine Row.alloc ?_ _) | (with_reducible apply Row.set4) | (with_reducible apply Row.set4a) | (with_reducible apply Row.set4b) | (with_reducible apply Row.set2) | (with_reducible apply Row.set1) | (with_reducible refine Row.set_other ?_ _ (by first | omega | (simp; done) | (simp; omega))))), (by repeat (first | (with_reducible exact row_new' (by first | omega | (simp; done) | (simp; omega))) | (with_reducible refine Row.drew ?_) | (with_reducible refine Row.drewN ?_ _) | (with_reducible refine Row.alloc ?_ _) | (with_reducible apply Row.set4) | (with_reducible apply Row.set4a) | (with_reducible apply Row.set4b) | (with_reducible apply Row.set2) | (with_reducible apply Row.set1) | (with_reducible refine Row.set_other ?_ _ (by first | omega | (simp; done) | (simp; omega)))))⟩ ?_
  clear ry
  clear sy cy0 cy1 cy2 cy3
  clear rz
  clear sz cz0 cz1 cz2 cz3
  clear hB sB
  rintro V4 ⟨hB, rz, ra⟩
  obtain ⟨sz, cz0, cz1, cz2, cz3⟩ := Fz _ rz
  have Fa : ∀ X, Row X W3.heap.size (.cells #[.string (S a.lo.num), .string (S (a.lo.den : Int)), .string (S a.hi.num), .string (S (a.hi.den : Int))] 29) → (W3.heap.size < X.heap.size ∧ X.cell? ⟨W3.heap.size, 0, none⟩ = some (.string (S a.lo.num)) ∧ X.cell? ⟨W3.heap.size, 1, none⟩ = some (.string (S (a.lo.den : Int))) ∧ X.cell? ⟨W3.heap.size, 2, none⟩ = some (.string (S a.hi.num)) ∧ X.cell? ⟨W3.heap.size, 3, none⟩ = some (.string (S (a.hi.den : Int)))) := fun X h => ⟨h.1, Row.cell_at h 0 rfl, Row.cell_at h 1 rfl, Row.cell_at h 2 rfl, Row.cell_at h 3 rfl⟩
  obtain ⟨sa, ca0, ca1, ca2, ca3⟩ := Fa _ ra
  refine (MY _).mono ?_
  rintro e W5 ⟨b, ⟨db, ob⟩, rfl, h1⟩
  clear sz cz0 cz1 cz2 cz3
  clear sa ca0 ca1 ca2 ca3
  replace hB := hB.trans (h1.mono hB.size)
  replace rz := Row.below rz h1
  replace ra := Row.below ra h1
  clear h1
  obtain ⟨sz, cz0, cz1, cz2, cz3⟩ := Fz _ rz
  obtain ⟨sa, ca0, ca1, ca2, ca3⟩ := Fa _ ra
  clear MY
  go_wp2_with fail
  have sB := hB.size
  refine world_cut (fun X => Below w.heap.size w X ∧ Row X (w.heap.size + 1 + 1) (.cells #[.int .i64 z0, .int .i64 z1, .int .i64 z2, .int .i64 z3] 22) ∧ Row X W3.heap.size (.cells #[.string (S a.lo.num), .string (S (a.lo.den : Int)), .string (S a.hi.num), .string (S (a.hi.den : Int))] 29) ∧ Row X W5.heap.size (.cells #[.string (S b.lo.num), .string (S (b.lo.den : Int)), .string (S b.hi.num), .string (S (b.hi.den : Int))] 29)) ⟨(by repeat (first | (with_reducible exact hB) | (with_reducible exact Below.refl _ _) | (with_reducible refine Below.drew ?_) | (with_reducible refine below_drewN ?_ _) | (with_reducible refine Below.alloc ?_ (by first | omega | (simp; done) | (simp; omega)) _) | (with_reducible refine Below.setCell ?_ (by first | omega | (simp; done) | (simp; omega)) _))), (by repeat (first | (with_reducible exact rz) | (with_reducible exact row_new' (by first | omega | (simp; done) | (simp; omega))) | (with_reducible refine Row.drew ?_) | (with_reducible refine Row.drewN ?_ _) | (with_reducible refine Row.alloc ?_ _) | (with_reducible apply Row.set4) | (with_reducible apply Row.set4a) | (with_reducible apply Row.set4b) | (with_reducible apply Row.set2) | (with_reducible apply Row.set1) | (with_reducible refine Row.set_other ?_ _ (by first | omega | (simp; done) | (simp; omega))))), (by repeat (first | (with_reducible exact ra) | (with_reducible exact row_new' (by first | omega | (simp; done) | (simp; omega))) | (with_reducible refine Row.drew ?_) | (with_reducible refine Row.drewN ?_ _) | (with_reducible refine Row.alloc ?_ _) | (with_reducible apply Row.set4) | (with_reducible apply Row.set4a) | (with_reducible apply Row.set4b) | (with_reducible apply Row.set2) | (with_reducible apply Row.set1) | (with_reducible refine Row.set_other ?_ _ (by first | omega | (simp; done) | (simp; omega))))), (by repeat (first | (with_reducible exact row_new' (by first | omega | (simp; done) | (simp; omega))) | (with_reducible refine Row.drew ?_) | (with_reducible refine Row.drewN ?_ _) | (with_reducible refine Row.alloc ?_ _) | (with_reducible apply Row.set4) | (with_reducible apply Row.set4a) | (with_reducible apply Row.set4b) | (with_reducible apply Row.set2) | (with_reducible apply Row.set1) | (with_reducible refine Row.set_other ?_ _ (by first | omega | (simp; done) | (simp; omega)))))⟩ ?_
  clear rz
  clear sz cz0 cz1 cz2 cz3
  clear ra
  clear sa ca0 ca1 ca2 ca3
  clear hB sB
  rintro V6 ⟨hB, rz, ra, rb⟩
  obtain ⟨sz, cz0, cz1, cz2, cz3⟩ := Fz _ rz
  obtain ⟨sa, ca0, ca1, ca2, ca3⟩ := Fa _ ra
  have Fb : ∀ X, Row X W5.heap.size (.cells #[.string (S b.lo.num), .string (S (b.lo.den : Int)), .string (S b.hi.num), .string (S (b.hi.den : Int))] 29) → (W5.heap.size < X.heap.size ∧ X.cell? ⟨W5.heap.size, 0, none⟩ = some (.string (S b.lo.num)) ∧ X.cell? ⟨W5.heap.size, 1, none⟩ = some (.string (S (b.lo.den : Int))) ∧ X.cell? ⟨W5.heap.size, 2, none⟩ = some (.string (S b.hi.num)) ∧ X.cell? ⟨W5.heap.size, 3, none⟩ = some (.string (S (b.hi.den : Int)))) := fun X h => ⟨h.1, Row.cell_at h 0 rfl, Row.cell_at h 1 rfl, Row.cell_at h 2 rfl, Row.cell_at h 3 rfl⟩
  obtain ⟨sb, cb0, cb1, cb2, cb3⟩ := Fb _ rb
  refine (PP _).mono ?_
  rintro e W7 ⟨p, hp12, rfl, h1⟩
  clear sz cz0 cz1 cz2 cz3
  clear sa ca0 ca1 ca2 ca3
  clear sb cb0 cb1 cb2 cb3
  replace hB := hB.trans (h1.mono hB.size)
  replace rz := Row.below rz h1
  replace ra := Row.below ra h1
  replace rb := Row.below rb h1
  clear h1
  obtain ⟨sz, cz0, cz1, cz2, cz3⟩ := Fz _ rz
  obtain ⟨sa, ca0, ca1, ca2, ca3⟩ := Fa _ ra
  obtain ⟨sb, cb0, cb1, cb2, cb3⟩ := Fb _ rb
  clear PP
  have SA := nsub da.1
  have AA := nadd da.2
  have SB := nsub db.1
  have AB := nadd db.2
  go_wp2_with fail
  have dz_c : w.heap.size + 1 + 1 < W7.heap.size := by omega
  have da_c : W3.heap.size < W7.heap.size := by omega
  have db_c : W5.heap.size < W7.heap.size := by omega
  have d0_c : w.heap.size ≤ W7.heap.size := by have := hB.size; omega
  have dz_d : w.heap.size + 1 + 1 < W7.heap.size + 1 := by omega
  have da_d : W3.heap.size < W7.heap.size + 1 := by omega
  have db_d : W5.heap.size < W7.heap.size + 1 := by omega
  have d0_d : w.heap.size ≤ W7.heap.size + 1 := by have := hB.size; omega
  have sB := hB.size
  refine wp_cut (fun X => Below w.heap.size w X ∧ Row X (w.heap.size + 1 + 1) (.cells #[.int .i64 z0, .int .i64 z1, .int .i64 z2, .int .i64 z3] 22) ∧ Row X W3.heap.size (.cells #[.string (S a.lo.num), .string (S (a.lo.den : Int)), .string (S a.hi.num), .string (S (a.hi.den : Int))] 29) ∧ Row X W5.heap.size (.cells #[.string (S b.lo.num), .string (S (b.lo.den : Int)), .string (S b.hi.num), .string (S (b.hi.den : Int))] 29) ∧ Row X W7.heap.size (.cells #[.string (S a.lo.num), .string (S (a.lo.den : Int)), .string (S a.hi.num), .string (S (a.hi.den : Int))] 29) ∧ Row X (W7.heap.size + 1) (.cells #[.string (S b.lo.num), .string (S (b.lo.den : Int)), .string (S b.hi.num), .string (S (b.hi.den : Int))] 29)) ⟨(by repeat (first | (with_reducible exact hB) | (with_reducible exact Below.refl _ _) | (with_reducible refine Below.drew ?_) | (with_reducible refine below_drewN ?_ _) | (with_reducible refine Below.alloc ?_ (by first | omega | (simp; done) | (simp; omega)) _) | (with_reducible refine Below.setCell ?_ (by first | omega | (simp; done) | (simp; omega)) _))), (by repeat (first | (with_reducible exact rz) | (with_reducible exact row_new' (by first | omega | (simp; done) | (simp; omega))) | (with_reducible refine Row.drew ?_) | (with_reducible refine Row.drewN ?_ _) | (with_reducible refine Row.alloc ?_ _) | (with_reducible apply Row.set4) | (with_reducible apply Row.set4a) | (with_reducible apply Row.set4b) | (with_reducible apply Row.set2) | (with_reducible apply Row.set1) | (with_reducible refine Row.set_other ?_ _ (by first | omega | (simp; done) | (simp; omega))))), (by repeat (first | (with_reducible exact ra) | (with_reducible exact row_new' (by first | omega | (simp; done) | (simp; omega))) | (with_reducible refine Row.drew ?_) | (with_reducible refine Row.drewN ?_ _) | (with_reducible refine Row.alloc ?_ _) | (with_reducible apply Row.set4) | (with_reducible apply Row.set4a) | (with_reducible apply Row.set4b) | (with_reducible apply Row.set2) | (with_reducible apply Row.set1) | (with_reducible refine Row.set_other ?_ _ (by first | omega | (simp; done) | (simp; omega))))), (by repeat (first | (with_reducible exact rb) | (with_reducible exact row_new' (by first | omega | (simp; done) | (simp; omega))) | (with_reducible refine Row.drew ?_) | (with_reducible refine Row.drewN ?_ _) | (with_reducible refine Row.alloc ?_ _) | (with_reducible apply Row.set4) | (with_reducible apply Row.set4a) | (with_reducible apply Row.set4b) | (with_reducible apply Row.set2) | (with_reducible apply Row.set1) | (with_reducible refine Row.set_other ?_ _ (by first | omega | (simp; done) | (simp; omega))))), (by repeat (first | (with_reducible exact row_new' (by first | omega | (simp; done) | (simp; omega))) | (with_reducible refine Row.drew ?_) | (with_reducible refine Row.drewN ?_ _) | (with_reducible refine Row.alloc ?_ _) | (with_reducible apply Row.set4) | (with_reducible apply Row.set4a) | (with_reducible apply Row.set4b) | (with_reducible apply Row.set2) | (with_reducible apply Row.set1) | (with_reducible refine Row.set_other ?_ _ (by first | omega | (simp; done) | (simp; omega))))), (by repeat (first | (with_reducible exact row_new' (by first | omega | (simp; done) | (simp; omega))) | (with_reducible refine Row.drew ?_) | (with_reducible refine Row.drewN ?_ _) | (with_reducible refine Row.alloc ?_ _) | (with_reducible apply Row.set4) | (with_reducible apply Row.set4a) | (with_reducible apply Row.set4b) | (with_reducible apply Row.set2) | (with_reducible apply Row.set1) | (with_reducible refine Row.set_other ?_ _ (by first | omega | (simp; done) | (simp; omega)))))⟩ ?_
  clear rz
  clear sz cz0 cz1 cz2 cz3
  clear ra
  clear sa ca0 ca1 ca2 ca3
  clear rb
  clear sb cb0 cb1 cb2 cb3
  clear hB sB
  rintro V8 ⟨hB, rz, ra, rb, rc, rd⟩
  obtain ⟨sz, cz0, cz1, cz2, cz3⟩ := Fz _ rz
  obtain ⟨sa, ca0, ca1, ca2, ca3⟩ := Fa _ ra
  obtain ⟨sb, cb0, cb1, cb2, cb3⟩ := Fb _ rb
  have Fc : ∀ X, Row X W7.heap.size (.cells #[.string (S a.lo.num), .string (S (a.lo.den : Int)), .string (S a.hi.num), .string (S (a.hi.den : Int))] 29) → (W7.heap.size < X.heap.size ∧ X.cell? ⟨W7.heap.size, 0, none⟩ = some (.string (S a.lo.num)) ∧ X.cell? ⟨W7.heap.size, 1, none⟩ = some (.string (S (a.lo.den : Int))) ∧ X.cell? ⟨W7.heap.size, 2, none⟩ = some (.string (S a.hi.num)) ∧ X.cell? ⟨W7.heap.size, 3, none⟩ = some (.string (S (a.hi.den : Int))) ∧ X.frozen? ⟨W7.heap.size, 0, none⟩ = false ∧ X.frozen? ⟨W7.heap.size, 1, none⟩ = false ∧ X.frozen? ⟨W7.heap.size, 2, none⟩ = false ∧ X.frozen? ⟨W7.heap.size, 3, none⟩ = false) := fun X h => ⟨h.1, Row.cell_at h 0 rfl, Row.cell_at h 1 rfl, Row.cell_at h 2 rfl, Row.cell_at h 3 rfl, frozen_of_row _ _ 0 _ _ h.2, frozen_of_row _ _ 1 _ _ h.2, frozen_of_row _ _ 2 _ _ h.2, frozen_of_row _ _ 3 _ _ h.2⟩
  obtain ⟨sc, cc0, cc1, cc2, cc3, fc0, fc1, fc2, fc3⟩ := Fc _ rc
  have Fd : ∀ X, Row X (W7.heap.size + 1) (.cells #[.string (S b.lo.num), .string (S (b.lo.den : Int)), .string (S b.hi.num), .string (S (b.hi.den : Int))] 29) → (W7.heap.size + 1 < X.heap.size ∧ X.cell? ⟨W7.heap.size + 1, 0, none⟩ = some (.string (S b.lo.num)) ∧ X.cell? ⟨W7.heap.size + 1, 1, none⟩ = some (.string (S (b.lo.den : Int))) ∧ X.cell? ⟨W7.heap.size + 1, 2, none⟩ = some (.string (S b.hi.num)) ∧ X.cell? ⟨W7.heap.size + 1, 3, none⟩ = some (.string (S (b.hi.den : Int))) ∧ X.frozen? ⟨W7.heap.size + 1, 0, none⟩ = false ∧ X.frozen? ⟨W7.heap.size + 1, 1, none⟩ = false ∧ X.frozen? ⟨W7.heap.size + 1, 2, none⟩ = false ∧ X.frozen? ⟨W7.heap.size + 1, 3, none⟩ = false) := fun X h => ⟨h.1, Row.cell_at h 0 rfl, Row.cell_at h 1 rfl, Row.cell_at h 2 rfl, Row.cell_at h 3 rfl, frozen_of_row _ _ 0 _ _ h.2, frozen_of_row _ _ 1 _ _ h.2, frozen_of_row _ _ 2 _ _ h.2, frozen_of_row _ _ 3 _ _ h.2⟩
  obtain ⟨sd, cd0, cd1, cd2, cd3, fd0, fd1, fd2, fd3⟩ := Fd _ rd
  clear sz cz0 cz1 cz2 cz3
  clear sa ca0 ca1 ca2 ca3
  clear sb cb0 cb1 cb2 cb3
  clear sc cc0 cc1 cc2 cc3 fc0 fc1 fc2 fc3
  clear sd cd0 cd1 cd2 cd3 fd0 fd1 fd2 fd3
  have KK7 : ∀ X, Row X (W3.heap.size) (.cells #[.string (S a.lo.num), .string (S (a.lo.den : Int)), .string (S a.hi.num), .string (S (a.hi.den : Int))] 29) → Row X (w.heap.size + 1 + 1) (.cells #[.int .i64 z0, .int .i64 z1, .int .i64 z2, .int .i64 z3] 22) → (X.cell? ⟨W3.heap.size, 0, none⟩ = some (.string (S a.lo.num)) ∧ X.cell? ⟨W3.heap.size, 1, none⟩ = some (.string (S (a.lo.den : Int))) ∧ X.cell? ⟨w.heap.size + 1 + 1, 0, none⟩ = some (.int .i64 z0)) := fun X ha hz => ⟨Row.cell_at ha 0 rfl, Row.cell_at ha 1 rfl, Row.cell_at hz 0 rfl⟩
  go_region_held3 (fun X => X.cell? ⟨W3.heap.size, 0, none⟩ = some (.string (S a.lo.num)) ∧ X.cell? ⟨W3.heap.size, 1, none⟩ = some (.string (S (a.lo.den : Int))) ∧ X.cell? ⟨w.heap.size + 1 + 1, 0, none⟩ = some (.int .i64 z0)) (first | exact KK7 _ (by repeat (first | (with_reducible exact ra) | (with_reducible exact row_new' (by first | omega | (simp; done) | (simp; omega))) | (with_reducible refine Row.drew ?_) | (with_reducible refine Row.drewN ?_ _) | (with_reducible refine Row.alloc ?_ _) | (with_reducible apply Row.set4) | (with_reducible apply Row.set4a) | (with_reducible apply Row.set4b) | (with_reducible apply Row.set2) | (with_reducible apply Row.set1) | (with_reducible refine Row.set_other ?_ _ (by first | omega | (simp; done) | (simp; omega))))) (by repeat (first | (with_reducible exact rz) | (with_reducible exact row_new' (by first | omega | (simp; done) | (simp; omega))) | (with_reducible refine Row.drew ?_) | (with_reducible refine Row.drewN ?_ _) | (with_reducible refine Row.alloc ?_ _) | (with_reducible apply Row.set4) | (with_reducible apply Row.set4a) | (with_reducible apply Row.set4b) | (with_reducible apply Row.set2) | (with_reducible apply Row.set1) | (with_reducible refine Row.set_other ?_ _ (by first | omega | (simp; done) | (simp; omega)))))) (first
      | (go_at_call 10; with_reducible refine (PK z0 hz.1 _).mono ?_; rintro e W ⟨p1, hp1, rfl, h1⟩; (try replace h1 := below_of_drew h1); replace hB := hB.trans (h1.mono hB.size); replace rz := Row.below rz h1; replace ra := Row.below ra h1; replace rb := Row.below rb h1; replace rc := Row.below rc h1; replace rd := Row.below rd h1)
      | (go_at_call 15; with_reducible refine (RA p1 hp1 _).mono ?_; rintro e W ⟨q1, hq1, rfl, h1⟩; (try replace h1 := below_of_drew h1); replace hB := hB.trans (h1.mono hB.size); replace rz := Row.below rz h1; replace ra := Row.below ra h1; replace rb := Row.below rb h1; replace rc := Row.below rc h1; replace rd := Row.below rd h1)
      | (go_at_call 17; with_reducible refine (SA q1 hq1 _ (by first | exact he.env.below hB | exact he.env.below hB.drew | exact he.env.below (below_drewN hB _))).mono ?_; rintro e W ⟨cl, hcl, rfl, h1⟩; (try replace h1 := below_of_drew h1); replace hB := hB.trans (h1.mono hB.size); replace rz := Row.below rz h1; replace ra := Row.below ra h1; replace rb := Row.below rb h1; replace rc := Row.below rc h1; replace rd := Row.below rd h1; obtain ⟨sc, cc0, cc1, cc2, cc3, fc0, fc1, fc2, fc3⟩ := Fc _ rc))
  clear KK7
  clear sc cc0 cc1 cc2 cc3 fc0 fc1 fc2 fc3
  obtain ⟨sz, cz0, cz1, cz2, cz3⟩ := Fz _ rz
  obtain ⟨sa, ca0, ca1, ca2, ca3⟩ := Fa _ ra
  obtain ⟨sb, cb0, cb1, cb2, cb3⟩ := Fb _ rb
  obtain ⟨sc, cc0, cc1, cc2, cc3, fc0, fc1, fc2, fc3⟩ := Fc _ rc
  obtain ⟨sd, cd0, cd1, cd2, cd3, fd0, fd1, fd2, fd3⟩ := Fd _ rd
  clear SA
  go_wp2_with fail
  have sB := hB.size
  refine wp_cut (fun X => Below w.heap.size w X ∧ Row X (w.heap.size + 1 + 1) (.cells #[.int .i64 z0, .int .i64 z1, .int .i64 z2, .int .i64 z3] 22) ∧ Row X W3.heap.size (.cells #[.string (S a.lo.num), .string (S (a.lo.den : Int)), .string (S a.hi.num), .string (S (a.hi.den : Int))] 29) ∧ Row X W5.heap.size (.cells #[.string (S b.lo.num), .string (S (b.lo.den : Int)), .string (S b.hi.num), .string (S (b.hi.den : Int))] 29) ∧ Row X W7.heap.size (.cells #[.string (S cl.num), .string (S (cl.den : Int)), .string (S a.hi.num), .string (S (a.hi.den : Int))] 29) ∧ Row X (W7.heap.size + 1) (.cells #[.string (S b.lo.num), .string (S (b.lo.den : Int)), .string (S b.hi.num), .string (S (b.hi.den : Int))] 29)) ⟨(by repeat (first | (with_reducible exact hB) | (with_reducible exact Below.refl _ _) | (with_reducible refine Below.drew ?_) | (with_reducible refine below_drewN ?_ _) | (with_reducible refine Below.alloc ?_ (by first | omega | (simp; done) | (simp; omega)) _) | (with_reducible refine Below.setCell ?_ (by first | omega | (simp; done) | (simp; omega)) _))), (by repeat (first | (with_reducible exact rz) | (with_reducible exact row_new' (by first | omega | (simp; done) | (simp; omega))) | (with_reducible refine Row.drew ?_) | (with_reducible refine Row.drewN ?_ _) | (with_reducible refine Row.alloc ?_ _) | (with_reducible apply Row.set4) | (with_reducible apply Row.set4a) | (with_reducible apply Row.set4b) | (with_reducible apply Row.set2) | (with_reducible apply Row.set1) | (with_reducible refine Row.set_other ?_ _ (by first | omega | (simp; done) | (simp; omega))))), (by repeat (first | (with_reducible exact ra) | (with_reducible exact row_new' (by first | omega | (simp; done) | (simp; omega))) | (with_reducible refine Row.drew ?_) | (with_reducible refine Row.drewN ?_ _) | (with_reducible refine Row.alloc ?_ _) | (with_reducible apply Row.set4) | (with_reducible apply Row.set4a) | (with_reducible apply Row.set4b) | (with_reducible apply Row.set2) | (with_reducible apply Row.set1) | (with_reducible refine Row.set_other ?_ _ (by first | omega | (simp; done) | (simp; omega))))), (by repeat (first | (with_reducible exact rb) | (with_reducible exact row_new' (by first | omega | (simp; done) | (simp; omega))) | (with_reducible refine Row.drew ?_) | (with_reducible refine Row.drewN ?_ _) | (with_reducible refine Row.alloc ?_ _) | (with_reducible apply Row.set4) | (with_reducible apply Row.set4a) | (with_reducible apply Row.set4b) | (with_reducible apply Row.set2) | (with_reducible apply Row.set1) | (with_reducible refine Row.set_other ?_ _ (by first | omega | (simp; done) | (simp; omega))))), (by repeat (first | (with_reducible exact rc) | (with_reducible exact row_new' (by first | omega | (simp; done) | (simp; omega))) | (with_reducible refine Row.drew ?_) | (with_reducible refine Row.drewN ?_ _) | (with_reducible refine Row.alloc ?_ _) | (with_reducible apply Row.set4) | (with_reducible apply Row.set4a) | (with_reducible apply Row.set4b) | (with_reducible apply Row.set2) | (with_reducible apply Row.set1) | (with_reducible refine Row.set_other ?_ _ (by first | omega | (simp; done) | (simp; omega))))), (by repeat (first | (with_reducible exact rd) | (with_reducible exact row_new' (by first | omega | (simp; done) | (simp; omega))) | (with_reducible refine Row.drew ?_) | (with_reducible refine Row.drewN ?_ _) | (with_reducible refine Row.alloc ?_ _) | (with_reducible apply Row.set4) | (with_reducible apply Row.set4a) | (with_reducible apply Row.set4b) | (with_reducible apply Row.set2) | (with_reducible apply Row.set1) | (with_reducible refine Row.set_other ?_ _ (by first | omega | (simp; done) | (simp; omega)))))⟩ ?_
  clear rz
  clear sz cz0 cz1 cz2 cz3
  clear ra
  clear sa ca0 ca1 ca2 ca3
  clear rb
  clear sb cb0 cb1 cb2 cb3
  clear rc
  clear sc cc0 cc1 cc2 cc3 fc0 fc1 fc2 fc3
  clear rd
  clear sd cd0 cd1 cd2 cd3 fd0 fd1 fd2 fd3
  clear hB sB
  rintro V9 ⟨hB, rz, ra, rb, rc, rd⟩
  obtain ⟨sz, cz0, cz1, cz2, cz3⟩ := Fz _ rz
  obtain ⟨sa, ca0, ca1, ca2, ca3⟩ := Fa _ ra
  obtain ⟨sb, cb0, cb1, cb2, cb3⟩ := Fb _ rb
  clear Fc
  have Fc : ∀ X, Row X W7.heap.size (.cells #[.string (S cl.num), .string (S (cl.den : Int)), .string (S a.hi.num), .string (S (a.hi.den : Int))] 29) → (W7.heap.size < X.heap.size ∧ X.cell? ⟨W7.heap.size, 0, none⟩ = some (.string (S cl.num)) ∧ X.cell? ⟨W7.heap.size, 1, none⟩ = some (.string (S (cl.den : Int))) ∧ X.cell? ⟨W7.heap.size, 2, none⟩ = some (.string (S a.hi.num)) ∧ X.cell? ⟨W7.heap.size, 3, none⟩ = some (.string (S (a.hi.den : Int))) ∧ X.frozen? ⟨W7.heap.size, 0, none⟩ = false ∧ X.frozen? ⟨W7.heap.size, 1, none⟩ = false ∧ X.frozen? ⟨W7.heap.size, 2, none⟩ = false ∧ X.frozen? ⟨W7.heap.size, 3, none⟩ = false) := fun X h => ⟨h.1, Row.cell_at h 0 rfl, Row.cell_at h 1 rfl, Row.cell_at h 2 rfl, Row.cell_at h 3 rfl, frozen_of_row _ _ 0 _ _ h.2, frozen_of_row _ _ 1 _ _ h.2, frozen_of_row _ _ 2 _ _ h.2, frozen_of_row _ _ 3 _ _ h.2⟩
  obtain ⟨sc, cc0, cc1, cc2, cc3, fc0, fc1, fc2, fc3⟩ := Fc _ rc
  obtain ⟨sd, cd0, cd1, cd2, cd3, fd0, fd1, fd2, fd3⟩ := Fd _ rd
  clear sz cz0 cz1 cz2 cz3
  clear sa ca0 ca1 ca2 ca3
  clear sb cb0 cb1 cb2 cb3
  clear sc cc0 cc1 cc2 cc3 fc0 fc1 fc2 fc3
  clear sd cd0 cd1 cd2 cd3 fd0 fd1 fd2 fd3
  have KK8 : ∀ X, Row X (W3.heap.size) (.cells #[.string (S a.lo.num), .string (S (a.lo.den : Int)), .string (S a.hi.num), .string (S (a.hi.den : Int))] 29) → Row X (w.heap.size + 1 + 1) (.cells #[.int .i64 z0, .int .i64 z1, .int .i64 z2, .int .i64 z3] 22) → (X.cell? ⟨W3.heap.size, 2, none⟩ = some (.string (S a.hi.num)) ∧ X.cell? ⟨W3.heap.size, 3, none⟩ = some (.string (S (a.hi.den : Int))) ∧ X.cell? ⟨w.heap.size + 1 + 1, 1, none⟩ = some (.int .i64 z1)) := fun X ha hz => ⟨Row.cell_at ha 2 rfl, Row.cell_at ha 3 rfl, Row.cell_at hz 1 rfl⟩
  go_region_held3 (fun X => X.cell? ⟨W3.heap.size, 2, none⟩ = some (.string (S a.hi.num)) ∧ X.cell? ⟨W3.heap.size, 3, none⟩ = some (.string (S (a.hi.den : Int))) ∧ X.cell? ⟨w.heap.size + 1 + 1, 1, none⟩ = some (.int .i64 z1)) (first | exact KK8 _ (by repeat (first | (with_reducible exact ra) | (with_reducible exact row_new' (by first | omega | (simp; done) | (simp; omega))) | (with_reducible refine Row.drew ?_) | (with_reducible refine Row.drewN ?_ _) | (with_reducible refine Row.alloc ?_ _) | (with_reducible apply Row.set4) | (with_reducible apply Row.set4a) | (with_reducible apply Row.set4b) | (with_reducible apply Row.set2) | (with_reducible apply Row.set1) | (with_reducible refine Row.set_other ?_ _ (by first | omega | (simp; done) | (simp; omega))))) (by repeat (first | (with_reducible exact rz) | (with_reducible exact row_new' (by first | omega | (simp; done) | (simp; omega))) | (with_reducible refine Row.drew ?_) | (with_reducible refine Row.drewN ?_ _) | (with_reducible refine Row.alloc ?_ _) | (with_reducible apply Row.set4) | (with_reducible apply Row.set4a) | (with_reducible apply Row.set4b) | (with_reducible apply Row.set2) | (with_reducible apply Row.set1) | (with_reducible refine Row.set_other ?_ _ (by first | omega | (simp; done) | (simp; omega)))))) (first
      | (go_at_call 10; with_reducible refine (PK z1 hz.2.1 _).mono ?_; rintro e W ⟨p2, hp2, rfl, h1⟩; (try replace h1 := below_of_drew h1); replace hB := hB.trans (h1.mono hB.size); replace rz := Row.below rz h1; replace ra := Row.below ra h1; replace rb := Row.below rb h1; replace rc := Row.below rc h1; replace rd := Row.below rd h1)
      | (go_at_call 15; with_reducible refine (RA p2 hp2 _).mono ?_; rintro e W ⟨q2, hq2, rfl, h1⟩; (try replace h1 := below_of_drew h1); replace hB := hB.trans (h1.mono hB.size); replace rz := Row.below rz h1; replace ra := Row.below ra h1; replace rb := Row.below rb h1; replace rc := Row.below rc h1; replace rd := Row.below rd h1)
      | (go_at_call 23; with_reducible refine (AA q2 hq2 _ (by first | exact he.env.below hB | exact he.env.below hB.drew | exact he.env.below (below_drewN hB _))).mono ?_; rintro e W ⟨ch, hch, rfl, h1⟩; (try replace h1 := below_of_drew h1); replace hB := hB.trans (h1.mono hB.size); replace rz := Row.below rz h1; replace ra := Row.below ra h1; replace rb := Row.below rb h1; replace rc := Row.below rc h1; replace rd := Row.below rd h1; obtain ⟨sc, cc0, cc1, cc2, cc3, fc0, fc1, fc2, fc3⟩ := Fc _ rc))
  clear KK8
  clear sc cc0 cc1 cc2 cc3 fc0 fc1 fc2 fc3
  obtain ⟨sz, cz0, cz1, cz2, cz3⟩ := Fz _ rz
  obtain ⟨sa, ca0, ca1, ca2, ca3⟩ := Fa _ ra
  obtain ⟨sb, cb0, cb1, cb2, cb3⟩ := Fb _ rb
  obtain ⟨sc, cc0, cc1, cc2, cc3, fc0, fc1, fc2, fc3⟩ := Fc _ rc
  obtain ⟨sd, cd0, cd1, cd2, cd3, fd0, fd1, fd2, fd3⟩ := Fd _ rd
  clear AA
  go_wp2_with fail
  have sB := hB.size
  refine wp_cut (fun X => Below w.heap.size w X ∧ Row X (w.heap.size + 1 + 1) (.cells #[.int .i64 z0, .int .i64 z1, .int .i64 z2, .int .i64 z3] 22) ∧ Row X W3.heap.size (.cells #[.string (S a.lo.num), .string (S (a.lo.den : Int)), .string (S a.hi.num), .string (S (a.hi.den : Int))] 29) ∧ Row X W5.heap.size (.cells #[.string (S b.lo.num), .string (S (b.lo.den : Int)), .string (S b.hi.num), .string (S (b.hi.den : Int))] 29) ∧ Row X W7.heap.size (.cells #[.string (S cl.num), .string (S (cl.den : Int)), .string (S ch.num), .string (S (ch.den : Int))] 29) ∧ Row X (W7.heap.size + 1) (.cells #[.string (S b.lo.num), .string (S (b.lo.den : Int)), .string (S b.hi.num), .string (S (b.hi.den : Int))] 29)) ⟨(by repeat (first | (with_reducible exact hB) | (with_reducible exact Below.refl _ _) | (with_reducible refine Below.drew ?_) | (with_reducible refine below_drewN ?_ _) | (with_reducible refine Below.alloc ?_ (by first | omega | (simp; done) | (simp; omega)) _) | (with_reducible refine Below.setCell ?_ (by first | omega | (simp; done) | (simp; omega)) _))), (by repeat (first | (with_reducible exact rz) | (with_reducible exact row_new' (by first | omega | (simp; done) | (simp; omega))) | (with_reducible refine Row.drew ?_) | (with_reducible refine Row.drewN ?_ _) | (with_reducible refine Row.alloc ?_ _) | (with_reducible apply Row.set4) | (with_reducible apply Row.set4a) | (with_reducible apply Row.set4b) | (with_reducible apply Row.set2) | (with_reducible apply Row.set1) | (with_reducible refine Row.set_other ?_ _ (by first | omega | (simp; done) | (simp; omega))))), (by repeat (first | (with_reducible exact ra) | (with_reducible exact row_new' (by first | omega | (simp; done) | (simp; omega))) | (with_reducible refine Row.drew ?_) | (with_reducible refine Row.drewN ?_ _) | (with_reducible refine Row.alloc ?_ _) | (with_reducible apply Row.set4) | (with_reducible apply Row.set4a) | (with_reducible apply Row.set4b) | (with_reducible apply Row.set2) | (with_reducible apply Row.set1) | (with_reducible refine Row.set_other ?_ _ (by first | omega | (simp; done) | (simp; omega))))), (by repeat (first | (with_reducible exact rb) | (with_reducible exact row_new' (by first | omega | (simp; done) | (simp; omega))) | (with_reducible refine Row.drew ?_) | (with_reducible refine Row.drewN ?_ _) | (with_reducible refine Row.alloc ?_ _) | (with_reducible apply Row.set4) | (with_reducible apply Row.set4a) | (with_reducible apply Row.set4b) | (with_reducible apply Row.set2) | (with_reducible apply Row.set1) | (with_reducible refine Row.set_other ?_ _ (by first | omega | (simp; done) | (simp; omega))))), (by repeat (first | (with_reducible exact rc) | (with_reducible exact row_new' (by first | omega | (simp; done) | (simp; omega))) | (with_reducible refine Row.drew ?_) | (with_reducible refine Row.drewN ?_ _) | (with_reducible refine Row.alloc ?_ _) | (with_reducible apply Row.set4) | (with_reducible apply Row.set4a) | (with_reducible apply Row.set4b) | (with_reducible apply Row.set2) | (with_reducible apply Row.set1) | (with_reducible refine Row.set_other ?_ _ (by first | omega | (simp; done) | (simp; omega))))), (by repeat (first | (with_reducible exact rd) | (with_reducible exact row_new' (by first | omega | (simp; done) | (simp; omega))) | (with_reducible refine Row.drew ?_) | (with_reducible refine Row.drewN ?_ _) | (with_reducible refine Row.alloc ?_ _) | (with_reducible apply Row.set4) | (with_reducible apply Row.set4a) | (with_reducible apply Row.set4b) | (with_reducible apply Row.set2) | (with_reducible apply Row.set1) | (with_reducible refine Row.set_other ?_ _ (by first | omega | (simp; done) | (simp; omega)))))⟩ ?_
  clear rz
  clear sz cz0 cz1 cz2 cz3
  clear ra
  clear sa ca0 ca1 ca2 ca3
  clear rb
  clear sb cb0 cb1 cb2 cb3
  clear rc
  clear sc cc0 cc1 cc2 cc3 fc0 fc1 fc2 fc3
  clear rd
  clear sd cd0 cd1 cd2 cd3 fd0 fd1 fd2 fd3
  clear hB sB
  rintro V10 ⟨hB, rz, ra, rb, rc, rd⟩
  obtain ⟨sz, cz0, cz1, cz2, cz3⟩ := Fz _ rz
  obtain ⟨sa, ca0, ca1, ca2, ca3⟩ := Fa _ ra
  obtain ⟨sb, cb0, cb1, cb2, cb3⟩ := Fb _ rb
  clear Fc
  have Fc : ∀ X, Row X W7.heap.size (.cells #[.string (S cl.num), .string (S (cl.den : Int)), .string (S ch.num), .string (S (ch.den : Int))] 29) → (W7.heap.size < X.heap.size ∧ X.cell? ⟨W7.heap.size, 0, none⟩ = some (.string (S cl.num)) ∧ X.cell? ⟨W7.heap.size, 1, none⟩ = some (.string (S (cl.den : Int))) ∧ X.cell? ⟨W7.heap.size, 2, none⟩ = some (.string (S ch.num)) ∧ X.cell? ⟨W7.heap.size, 3, none⟩ = some (.string (S (ch.den : Int))) ∧ X.frozen? ⟨W7.heap.size, 0, none⟩ = false ∧ X.frozen? ⟨W7.heap.size, 1, none⟩ = false ∧ X.frozen? ⟨W7.heap.size, 2, none⟩ = false ∧ X.frozen? ⟨W7.heap.size, 3, none⟩ = false) := fun X h => ⟨h.1, Row.cell_at h 0 rfl, Row.cell_at h 1 rfl, Row.cell_at h 2 rfl, Row.cell_at h 3 rfl, frozen_of_row _ _ 0 _ _ h.2, frozen_of_row _ _ 1 _ _ h.2, frozen_of_row _ _ 2 _ _ h.2, frozen_of_row _ _ 3 _ _ h.2⟩
  obtain ⟨sc, cc0, cc1, cc2, cc3, fc0, fc1, fc2, fc3⟩ := Fc _ rc
  obtain ⟨sd, cd0, cd1, cd2, cd3, fd0, fd1, fd2, fd3⟩ := Fd _ rd
  clear sz cz0 cz1 cz2 cz3
  clear sa ca0 ca1 ca2 ca3
  clear sb cb0 cb1 cb2 cb3
  clear sc cc0 cc1 cc2 cc3 fc0 fc1 fc2 fc3
  clear sd cd0 cd1 cd2 cd3 fd0 fd1 fd2 fd3
  have KK9 : ∀ X, Row X (W5.heap.size) (.cells #[.string (S b.lo.num), .string (S (b.lo.den : Int)), .string (S b.hi.num), .string (S (b.hi.den : Int))] 29) → Row X (w.heap.size + 1 + 1) (.cells #[.int .i64 z0, .int .i64 z1, .int .i64 z2, .int .i64 z3] 22) → (X.cell? ⟨W5.heap.size, 0, none⟩ = some (.string (S b.lo.num)) ∧ X.cell? ⟨W5.heap.size, 1, none⟩ = some (.string (S (b.lo.den : Int))) ∧ X.cell? ⟨w.heap.size + 1 + 1, 2, none⟩ = some (.int .i64 z2)) := fun X hb hz => ⟨Row.cell_at hb 0 rfl, Row.cell_at hb 1 rfl, Row.cell_at hz 2 rfl⟩
  go_region_held3 (fun X => X.cell? ⟨W5.heap.size, 0, none⟩ = some (.string (S b.lo.num)) ∧ X.cell? ⟨W5.heap.size, 1, none⟩ = some (.string (S (b.lo.den : Int))) ∧ X.cell? ⟨w.heap.size + 1 + 1, 2, none⟩ = some (.int .i64 z2)) (first | exact KK9 _ (by repeat (first | (with_reducible exact rb) | (with_reducible exact row_new' (by first | omega | (simp; done) | (simp; omega))) | (with_reducible refine Row.drew ?_) | (with_reducible refine Row.drewN ?_ _) | (with_reducible refine Row.alloc ?_ _) | (with_reducible apply Row.set4) | (with_reducible apply Row.set4a) | (with_reducible apply Row.set4b) | (with_reducible apply Row.set2) | (with_reducible apply Row.set1) | (with_reducible refine Row.set_other ?_ _ (by first | omega | (simp; done) | (simp; omega))))) (by repeat (first | (with_reducible exact rz) | (with_reducible exact row_new' (by first | omega | (simp; done) | (simp; omega))) | (with_reducible refine Row.drew ?_) | (with_reducible refine Row.drewN ?_ _) | (with_reducible refine Row.alloc ?_ _) | (with_reducible apply Row.set4) | (with_reducible apply Row.set4a) | (with_reducible apply Row.set4b) | (with_reducible apply Row.set2) | (with_reducible apply Row.set1) | (with_reducible refine Row.set_other ?_ _ (by first | omega | (simp; done) | (simp; omega)))))) (first
      | (go_at_call 10; with_reducible refine (PK z2 hz.2.2.1 _).mono ?_; rintro e W ⟨p3, hp3, rfl, h1⟩; (try replace h1 := below_of_drew h1); replace hB := hB.trans (h1.mono hB.size); replace rz := Row.below rz h1; replace ra := Row.below ra h1; replace rb := Row.below rb h1; replace rc := Row.below rc h1; replace rd := Row.below rd h1)
      | (go_at_call 15; with_reducible refine (RA p3 hp3 _).mono ?_; rintro e W ⟨q3, hq3, rfl, h1⟩; (try replace h1 := below_of_drew h1); replace hB := hB.trans (h1.mono hB.size); replace rz := Row.below rz h1; replace ra := Row.below ra h1; replace rb := Row.below rb h1; replace rc := Row.below rc h1; replace rd := Row.below rd h1)
      | (go_at_call 17; with_reducible refine (SB q3 hq3 _ (by first | exact he.env.below hB | exact he.env.below hB.drew | exact he.env.below (below_drewN hB _))).mono ?_; rintro e W ⟨dl, hdl, rfl, h1⟩; (try replace h1 := below_of_drew h1); replace hB := hB.trans (h1.mono hB.size); replace rz := Row.below rz h1; replace ra := Row.below ra h1; replace rb := Row.below rb h1; replace rc := Row.below rc h1; replace rd := Row.below rd h1; obtain ⟨sd, cd0, cd1, cd2, cd3, fd0, fd1, fd2, fd3⟩ := Fd _ rd))
  clear KK9
  clear sd cd0 cd1 cd2 cd3 fd0 fd1 fd2 fd3
  obtain ⟨sz, cz0, cz1, cz2, cz3⟩ := Fz _ rz
  obtain ⟨sa, ca0, ca1, ca2, ca3⟩ := Fa _ ra
  obtain ⟨sb, cb0, cb1, cb2, cb3⟩ := Fb _ rb
  obtain ⟨sc, cc0, cc1, cc2, cc3, fc0, fc1, fc2, fc3⟩ := Fc _ rc
  obtain ⟨sd, cd0, cd1, cd2, cd3, fd0, fd1, fd2, fd3⟩ := Fd _ rd
  clear SB
  go_wp2_with fail
  have sB := hB.size
  refine wp_cut (fun X => Below w.heap.size w X ∧ Row X (w.heap.size + 1 + 1) (.cells #[.int .i64 z0, .int .i64 z1, .int .i64 z2, .int .i64 z3] 22) ∧ Row X W3.heap.size (.cells #[.string (S a.lo.num), .string (S (a.lo.den : Int)), .string (S a.hi.num), .string (S (a.hi.den : Int))] 29) ∧ Row X W5.heap.size (.cells #[.string (S b.lo.num), .string (S (b.lo.den : Int)), .string (S b.hi.num), .string (S (b.hi.den : Int))] 29) ∧ Row X W7.heap.size (.cells #[.string (S cl.num), .string (S (cl.den : Int)), .string (S ch.num), .string (S (ch.den : Int))] 29) ∧ Row X (W7.heap.size + 1) (.cells #[.string (S dl.num), .string (S (dl.den : Int)), .string (S b.hi.num), .string (S (b.hi.den : Int))] 29)) ⟨(by repeat (first | (with_reducible exact hB) | (with_reducible exact Below.refl _ _) | (with_reducible refine Below.drew ?_) | (with_reducible refine below_drewN ?_ _) | (with_reducible refine Below.alloc ?_ (by first | omega | (simp; done) | (simp; omega)) _) | (with_reducible refine Below.setCell ?_ (by first | omega | (simp; done) | (simp; omega)) _))), (by repeat (first | (with_reducible exact rz) | (with_reducible exact row_new' (by first | omega | (simp; done) | (simp; omega))) | (with_reducible refine Row.drew ?_) | (with_reducible refine Row.drewN ?_ _) | (with_reducible refine Row.alloc ?_ _) | (with_reducible apply Row.set4) | (with_reducible apply Row.set4a) | (with_reducible apply Row.set4b) | (with_reducible apply Row.set2) | (with_reducible apply Row.set1) | (with_reducible refine Row.set_other ?_ _ (by first | omega | (simp; done) | (simp; omega))))), (by repeat (first | (with_reducible exact ra) | (with_reducible exact row_new' (by first | omega | (simp; done) | (simp; omega))) | (with_reducible refine Row.drew ?_) | (with_reducible refine Row.drewN ?_ _) | (with_reducible refine Row.alloc ?_ _) | (with_reducible apply Row.set4) | (with_reducible apply Row.set4a) | (with_reducible apply Row.set4b) | (with_reducible apply Row.set2) | (with_reducible apply Row.set1) | (with_reducible refine Row.set_other ?_ _ (by first | omega | (simp; done) | (simp; omega))))), (by repeat (first | (with_reducible exact rb) | (with_reducible exact row_new' (by first | omega | (simp; done) | (simp; omega))) | (with_reducible refine Row.drew ?_) | (with_reducible refine Row.drewN ?_ _) | (with_reducible refine Row.alloc ?_ _) | (with_reducible apply Row.set4) | (with_reducible apply Row.set4a) | (with_reducible apply Row.set4b) | (with_reducible apply Row.set2) | (with_reducible apply Row.set1) | (with_reducible refine Row.set_other ?_ _ (by first | omega | (simp; done) | (simp; omega))))), (by repeat (first | (with_reducible exact rc) | (with_reducible exact row_new' (by first | omega | (simp; done) | (simp; omega))) | (with_reducible refine Row.drew ?_) | (with_reducible refine Row.drewN ?_ _) | (with_reducible refine Row.alloc ?_ _) | (with_reducible apply Row.set4) | (with_reducible apply Row.set4a) | (with_reducible apply Row.set4b) | (with_reducible apply Row.set2) | (with_reducible apply Row.set1) | (with_reducible refine Row.set_other ?_ _ (by first | omega | (simp; done) | (simp; omega))))), (by repeat (first | (with_reducible exact rd) | (with_reducible exact row_new' (by first | omega | (simp; done) | (simp; omega))) | (with_reducible refine Row.drew ?_) | (with_reducible refine Row.drewN ?_ _) | (with_reducible refine Row.alloc ?_ _) | (with_reducible apply Row.set4) | (with_reducible apply Row.set4a) | (with_reducible apply Row.set4b) | (with_reducible apply Row.set2) | (with_reducible apply Row.set1) | (with_reducible refine Row.set_other ?_ _ (by first | omega | (simp; done) | (simp; omega)))))⟩ ?_
  clear rz
  clear sz cz0 cz1 cz2 cz3
  clear ra
  clear sa ca0 ca1 ca2 ca3
  clear rb
  clear sb cb0 cb1 cb2 cb3
  clear rc
  clear sc cc0 cc1 cc2 cc3 fc0 fc1 fc2 fc3
  clear rd
  clear sd cd0 cd1 cd2 cd3 fd0 fd1 fd2 fd3
  clear hB sB
  rintro V11 ⟨hB, rz, ra, rb, rc, rd⟩
  obtain ⟨sz, cz0, cz1, cz2, cz3⟩ := Fz _ rz
  obtain ⟨sa, ca0, ca1, ca2, ca3⟩ := Fa _ ra
  obtain ⟨sb, cb0, cb1, cb2, cb3⟩ := Fb _ rb
  obtain ⟨sc, cc0, cc1, cc2, cc3, fc0, fc1, fc2, fc3⟩ := Fc _ rc
  clear Fd
  have Fd : ∀ X, Row X (W7.heap.size + 1) (.cells #[.string (S dl.num), .string (S (dl.den : Int)), .string (S b.hi.num), .string (S (b.hi.den : Int))] 29) → (W7.heap.size + 1 < X.heap.size ∧ X.cell? ⟨W7.heap.size + 1, 0, none⟩ = some (.string (S dl.num)) ∧ X.cell? ⟨W7.heap.size + 1, 1, none⟩ = some (.string (S (dl.den : Int))) ∧ X.cell? ⟨W7.heap.size + 1, 2, none⟩ = some (.string (S b.hi.num)) ∧ X.cell? ⟨W7.heap.size + 1, 3, none⟩ = some (.string (S (b.hi.den : Int))) ∧ X.frozen? ⟨W7.heap.size + 1, 0, none⟩ = false ∧ X.frozen? ⟨W7.heap.size + 1, 1, none⟩ = false ∧ X.frozen? ⟨W7.heap.size + 1, 2, none⟩ = false ∧ X.frozen? ⟨W7.heap.size + 1, 3, none⟩ = false) := fun X h => ⟨h.1, Row.cell_at h 0 rfl, Row.cell_at h 1 rfl, Row.cell_at h 2 rfl, Row.cell_at h 3 rfl, frozen_of_row _ _ 0 _ _ h.2, frozen_of_row _ _ 1 _ _ h.2, frozen_of_row _ _ 2 _ _ h.2, frozen_of_row _ _ 3 _ _ h.2⟩
  obtain ⟨sd, cd0, cd1, cd2, cd3, fd0, fd1, fd2, fd3⟩ := Fd _ rd
  clear sz cz0 cz1 cz2 cz3
  clear sa ca0 ca1 ca2 ca3
  clear sb cb0 cb1 cb2 cb3
  clear sc cc0 cc1 cc2 cc3 fc0 fc1 fc2 fc3
  clear sd cd0 cd1 cd2 cd3 fd0 fd1 fd2 fd3
  have KK10 : ∀ X, Row X (W5.heap.size) (.cells #[.string (S b.lo.num), .string (S (b.lo.den : Int)), .string (S b.hi.num), .string (S (b.hi.den : Int))] 29) → Row X (w.heap.size + 1 + 1) (.cells #[.int .i64 z0, .int .i64 z1, .int .i64 z2, .int .i64 z3] 22) → (X.cell? ⟨W5.heap.size, 2, none⟩ = some (.string (S b.hi.num)) ∧ X.cell? ⟨W5.heap.size, 3, none⟩ = some (.string (S (b.hi.den : Int))) ∧ X.cell? ⟨w.heap.size + 1 + 1, 3, none⟩ = some (.int .i64 z3)) := fun X hb hz => ⟨Row.cell_at hb 2 rfl, Row.cell_at hb 3 rfl, Row.cell_at hz 3 rfl⟩
  go_region_held3 (fun X => X.cell? ⟨W5.heap.size, 2, none⟩ = some (.string (S b.hi.num)) ∧ X.cell? ⟨W5.heap.size, 3, none⟩ = some (.string (S (b.hi.den : Int))) ∧ X.cell? ⟨w.heap.size + 1 + 1, 3, none⟩ = some (.int .i64 z3)) (first | exact KK10 _ (by repeat (first | (with_reducible exact rb) | (with_reducible exact row_new' (by first | omega | (simp; done) | (simp; omega))) | (with_reducible refine Row.drew ?_) | (with_reducible refine Row.drewN ?_ _) | (with_reducible refine Row.alloc ?_ _) | (with_reducible apply Row.set4) | (with_reducible apply Row.set4a) | (with_reducible apply Row.set4b) | (with_reducible apply Row.set2) | (with_reducible apply Row.set1) | (with_reducible refine Row.set_other ?_ _ (by first | omega | (simp; done) | (simp; omega))))) (by repeat (first | (with_reducible exact rz) | (with_reducible exact row_new' (by first | omega | (simp; done) | (simp; omega))) | (with_reducible refine Row.drew ?_) | (with_reducible refine Row.drewN ?_ _) | (with_reducible refine Row.alloc ?_ _) | (with_reducible apply Row.set4) | (with_reducible apply Row.set4a) | (with_reducible apply Row.set4b) | (with_reducible apply Row.set2) | (with_reducible apply Row.set1) | (with_reducible refine Row.set_other ?_ _ (by first | omega | (simp; done) | (simp; omega)))))) (first
      | (go_at_call 10; with_reducible refine (PK z3 hz.2.2.2 _).mono ?_; rintro e W ⟨p4, hp4, rfl, h1⟩; (try replace h1 := below_of_drew h1); replace hB := hB.trans (h1.mono hB.size); replace rz := Row.below rz h1; replace ra := Row.below ra h1; replace rb := Row.below rb h1; replace rc := Row.below rc h1; replace rd := Row.below rd h1)
      | (go_at_call 15; with_reducible refine (RA p4 hp4 _).mono ?_; rintro e W ⟨q4, hq4, rfl, h1⟩; (try replace h1 := below_of_drew h1); replace hB := hB.trans (h1.mono hB.size); replace rz := Row.below rz h1; replace ra := Row.below ra h1; replace rb := Row.below rb h1; replace rc := Row.below rc h1; replace rd := Row.below rd h1)
      | (go_at_call 23; with_reducible refine (AB q4 hq4 _ (by first | exact he.env.below hB | exact he.env.below hB.drew | exact he.env.below (below_drewN hB _))).mono ?_; rintro e W ⟨dh, hdh, rfl, h1⟩; (try replace h1 := below_of_drew h1); replace hB := hB.trans (h1.mono hB.size); replace rz := Row.below rz h1; replace ra := Row.below ra h1; replace rb := Row.below rb h1; replace rc := Row.below rc h1; replace rd := Row.below rd h1; obtain ⟨sd, cd0, cd1, cd2, cd3, fd0, fd1, fd2, fd3⟩ := Fd _ rd))
  clear KK10
  clear sd cd0 cd1 cd2 cd3 fd0 fd1 fd2 fd3
  obtain ⟨sz, cz0, cz1, cz2, cz3⟩ := Fz _ rz
  obtain ⟨sa, ca0, ca1, ca2, ca3⟩ := Fa _ ra
  obtain ⟨sb, cb0, cb1, cb2, cb3⟩ := Fb _ rb
  obtain ⟨sc, cc0, cc1, cc2, cc3, fc0, fc1, fc2, fc3⟩ := Fc _ rc
  obtain ⟨sd, cd0, cd1, cd2, cd3, fd0, fd1, fd2, fd3⟩ := Fd _ rd
  clear AB
  clear PK RA hz
  have dc : IDig 7 ⟨cl, ch⟩ := ⟨hcl.2, hch.2⟩
  have dd : IDig 7 ⟨dl, dh⟩ := ⟨hdl.2, hdh.2⟩
  have sc : a.Sub ⟨cl, ch⟩ := ⟨hcl.1, hch.1⟩
  have sd : b.Sub ⟨dl, dh⟩ := ⟨hdl.1, hdh.1⟩
  have oc : Iv.Ok ⟨cl, ch⟩ := Rat.le_trans hcl.1 (Rat.le_trans oa hch.1)
  have od : Iv.Ok ⟨dl, dh⟩ := Rat.le_trans hdl.1 (Rat.le_trans ob hdh.1)
  have CALLS := fun W (h : EnvE a0 W) => ncalls (p := p) (da.mono (show 3 ≤ 7 by omega)) (db.mono (show 3 ≤ 7 by omega)) oa ob (by omega) W h
  have CALLW := fun W (h : EnvE a0 W) => ncalls (p := p) dc dd oc od (by omega) W h
  have WA := fun W (h : Env W) => ewithin a ⟨cl, ch⟩ (da.mono (by omega)) (dc.mono (by omega)) oa sc W h
  have WB := fun W (h : Env W) => ewithin b ⟨dl, dh⟩ (db.mono (by omega)) (dd.mono (by omega)) ob sd W h
  have KEY : Hid (∀ k, k < 8 → ∀ o o', OpRes k a b (TT p) o → OpRes k ⟨cl, ch⟩ ⟨dl, dh⟩ (TT p) o' → o' = none ∨ (∃ s t, o = some s ∧ o' = some t ∧ s.Ok ∧ IDig 50 s ∧ IDig 50 t ∧ s.Sub t) ∨ (∃ t, k = 5 ∧ o = none ∧ o' = some t)) := Lib.hid (nkey (da.mono (by omega)) (db.mono (by omega)) dc dd oa ob oc od sc sd (by omega))
  unfold BoolOk at WA WB
  unfold I at CALLS CALLW WA WB
  simp only at CALLW WA WB
  clear da db oa ob dc dd sc sd oc od hcl hch hdl hdh hp12
  generalize hg : S a.lo.num = aln at *
  clear hg
  generalize hg : S (a.lo.den : Int) = ald at *
  clear hg
  generalize hg : S a.hi.num = ahn at *
  clear hg
  generalize hg : S (a.hi.den : Int) = ahd at *
  clear hg
  generalize hg : S b.lo.num = bln at *
  clear hg
  generalize hg : S (b.lo.den : Int) = bld at *
  clear hg
  generalize hg : S b.hi.num = bhn at *
  clear hg
  generalize hg : S (b.hi.den : Int) = bhd at *
  clear hg
  generalize hg : S cl.num = cln at *
  clear hg
  generalize hg : S (cl.den : Int) = cld at *
  clear hg
  generalize hg : S ch.num = chn at *
  clear hg
  generalize hg : S (ch.den : Int) = chd at *
  clear hg
  generalize hg : S dl.num = dln at *
  clear hg
  generalize hg : S (dl.den : Int) = dld at *
  clear hg
  generalize hg : S dh.num = dhn at *
  clear hg
  generalize hg : S (dh.den : Int) = dhd at *
  clear hg
  go_wp2_with fail
  clear Fz
  have sB := hB.size
  refine world_cut (fun X => Below w.heap.size w X ∧ Row X W3.heap.size (.cells #[.string aln, .string ald, .string ahn, .string ahd] 29) ∧ Row X W5.heap.size (.cells #[.string bln, .string bld, .string bhn, .string bhd] 29) ∧ Row X W7.heap.size (.cells #[.string cln, .string cld, .string chn, .string chd] 29) ∧ Row X (W7.heap.size + 1) (.cells #[.string dln, .string dld, .string dhn, .string dhd] 29)) ⟨(by repeat (first | (with_reducible exact hB) | (with_reducible exact Below.refl _ _) | (with_reducible refine Below.drew ?_) | (with_reducible refine below_drewN ?_ _) | (with_reducible refine Below.alloc ?_ (by first | omega | (simp; done) | (simp; omega)) _) | (with_reducible refine Below.setCell ?_ (by first | omega | (simp; done) | (simp; omega)) _))), (by repeat (first | (with_reducible exact ra) | (with_reducible exact row_new' (by first | omega | (simp; done) | (simp; omega))) | (with_reducible refine Row.drew ?_) | (with_reducible refine Row.drewN ?_ _) | (with_reducible refine Row.alloc ?_ _) | (with_reducible apply Row.set4) | (with_reducible apply Row.set4a) | (with_reducible apply Row.set4b) | (with_reducible apply Row.set2) | (with_reducible apply Row.set1) | (with_reducible refine Row.set_other ?_ _ (by first | omega | (simp; done) | (simp; omega))))), (by repeat (first | (with_reducible exact rb) | (with_reducible exact row_new' (by first | omega | (simp; done) | (simp; omega))) | (with_reducible refine Row.drew ?_) | (with_reducible refine Row.drewN ?_ _) | (with_reducible refine Row.alloc ?_ _) | (with_reducible apply Row.set4) | (with_reducible apply Row.set4a) | (with_reducible apply Row.set4b) | (with_reducible apply Row.set2) | (with_reducible apply Row.set1) | (with_reducible refine Row.set_other ?_ _ (by first | omega | (simp; done) | (simp; omega))))), (by repeat (first | (with_reducible exact rc) | (with_reducible exact row_new' (by first | omega | (simp; done) | (simp; omega))) | (with_reducible refine Row.drew ?_) | (with_reducible refine Row.drewN ?_ _) | (with_reducible refine Row.alloc ?_ _) | (with_reducible apply Row.set4) | (with_reducible apply Row.set4a) | (with_reducible apply Row.set4b) | (with_reducible apply Row.set2) | (with_reducible apply Row.set1) | (with_reducible refine Row.set_other ?_ _ (by first | omega | (simp; done) | (simp; omega))))), (by repeat (first | (with_reducible exact rd) | (with_reducible exact row_new' (by first | omega | (simp; done) | (simp; omega))) | (with_reducible refine Row.drew ?_) | (with_reducible refine Row.drewN ?_ _) | (with_reducible refine Row.alloc ?_ _) | (with_reducible apply Row.set4) | (with_reducible apply Row.set4a) | (with_reducible apply Row.set4b) | (with_reducible apply Row.set2) | (with_reducible apply Row.set1) | (with_reducible refine Row.set_other ?_ _ (by first | omega | (simp; done) | (simp; omega)))))⟩ ?_
  clear rz
  clear sz cz0 cz1 cz2 cz3
  clear ra
  clear sa ca0 ca1 ca2 ca3
  clear rb
  clear sb cb0 cb1 cb2 cb3
  clear rc
  clear sc cc0 cc1 cc2 cc3 fc0 fc1 fc2 fc3
  clear rd
  clear sd cd0 cd1 cd2 cd3 fd0 fd1 fd2 fd3
  clear hB sB
  rintro V12 ⟨hB, ra, rb, rc, rd⟩
  clear Fa
  have Fa : ∀ X, Row X W3.heap.size (.cells #[.string aln, .string ald, .string ahn, .string ahd] 29) → (W3.heap.size < X.heap.size ∧ X.cell? ⟨W3.heap.size, 0, none⟩ = some (.string aln) ∧ X.cell? ⟨W3.heap.size, 1, none⟩ = some (.string ald) ∧ X.cell? ⟨W3.heap.size, 2, none⟩ = some (.string ahn) ∧ X.cell? ⟨W3.heap.size, 3, none⟩ = some (.string ahd)) := fun X h => ⟨h.1, Row.cell_at h 0 rfl, Row.cell_at h 1 rfl, Row.cell_at h 2 rfl, Row.cell_at h 3 rfl⟩
  obtain ⟨sa, ca0, ca1, ca2, ca3⟩ := Fa _ ra
  clear Fb
  have Fb : ∀ X, Row X W5.heap.size (.cells #[.string bln, .string bld, .string bhn, .string bhd] 29) → (W5.heap.size < X.heap.size ∧ X.cell? ⟨W5.heap.size, 0, none⟩ = some (.string bln) ∧ X.cell? ⟨W5.heap.size, 1, none⟩ = some (.string bld) ∧ X.cell? ⟨W5.heap.size, 2, none⟩ = some (.string bhn) ∧ X.cell? ⟨W5.heap.size, 3, none⟩ = some (.string bhd)) := fun X h => ⟨h.1, Row.cell_at h 0 rfl, Row.cell_at h 1 rfl, Row.cell_at h 2 rfl, Row.cell_at h 3 rfl⟩
  obtain ⟨sb, cb0, cb1, cb2, cb3⟩ := Fb _ rb
  clear Fc
  have Fc : ∀ X, Row X W7.heap.size (.cells #[.string cln, .string cld, .string chn, .string chd] 29) → (W7.heap.size < X.heap.size ∧ X.cell? ⟨W7.heap.size, 0, none⟩ = some (.string cln) ∧ X.cell? ⟨W7.heap.size, 1, none⟩ = some (.string cld) ∧ X.cell? ⟨W7.heap.size, 2, none⟩ = some (.string chn) ∧ X.cell? ⟨W7.heap.size, 3, none⟩ = some (.string chd) ∧ X.frozen? ⟨W7.heap.size, 0, none⟩ = false ∧ X.frozen? ⟨W7.heap.size, 1, none⟩ = false ∧ X.frozen? ⟨W7.heap.size, 2, none⟩ = false ∧ X.frozen? ⟨W7.heap.size, 3, none⟩ = false) := fun X h => ⟨h.1, Row.cell_at h 0 rfl, Row.cell_at h 1 rfl, Row.cell_at h 2 rfl, Row.cell_at h 3 rfl, frozen_of_row _ _ 0 _ _ h.2, frozen_of_row _ _ 1 _ _ h.2, frozen_of_row _ _ 2 _ _ h.2, frozen_of_row _ _ 3 _ _ h.2⟩
  obtain ⟨sc, cc0, cc1, cc2, cc3, fc0, fc1, fc2, fc3⟩ := Fc _ rc
  clear Fd
  have Fd : ∀ X, Row X (W7.heap.size + 1) (.cells #[.string dln, .string dld, .string dhn, .string dhd] 29) → (W7.heap.size + 1 < X.heap.size ∧ X.cell? ⟨W7.heap.size + 1, 0, none⟩ = some (.string dln) ∧ X.cell? ⟨W7.heap.size + 1, 1, none⟩ = some (.string dld) ∧ X.cell? ⟨W7.heap.size + 1, 2, none⟩ = some (.string dhn) ∧ X.cell? ⟨W7.heap.size + 1, 3, none⟩ = some (.string dhd) ∧ X.frozen? ⟨W7.heap.size + 1, 0, none⟩ = false ∧ X.frozen? ⟨W7.heap.size + 1, 1, none⟩ = false ∧ X.frozen? ⟨W7.heap.size + 1, 2, none⟩ = false ∧ X.frozen? ⟨W7.heap.size + 1, 3, none⟩ = false) := fun X h => ⟨h.1, Row.cell_at h 0 rfl, Row.cell_at h 1 rfl, Row.cell_at h 2 rfl, Row.cell_at h 3 rfl, frozen_of_row _ _ 0 _ _ h.2, frozen_of_row _ _ 1 _ _ h.2, frozen_of_row _ _ 2 _ _ h.2, frozen_of_row _ _ 3 _ _ h.2⟩
  obtain ⟨sd, cd0, cd1, cd2, cd3, fd0, fd1, fd2, fd3⟩ := Fd _ rd
  refine (CALLS _ (he.below hB)).mono ?_
  rintro e W13 ⟨f, g, gc, gs, h, hc, hs, hf, rfl, rg, rh, xg, xh, h1⟩
  clear sa ca0 ca1 ca2 ca3
  clear sb cb0 cb1 cb2 cb3
  clear sc cc0 cc1 cc2 cc3 fc0 fc1 fc2 fc3
  clear sd cd0 cd1 cd2 cd3 fd0 fd1 fd2 fd3
  replace hB := hB.trans (h1.mono hB.size)
  replace ra := Row.below ra h1
  replace rb := Row.below rb h1
  replace rc := Row.below rc h1
  replace rd := Row.below rd h1
  clear h1
  obtain ⟨sa, ca0, ca1, ca2, ca3⟩ := Fa _ ra
  obtain ⟨sb, cb0, cb1, cb2, cb3⟩ := Fb _ rb
  obtain ⟨sc, cc0, cc1, cc2, cc3, fc0, fc1, fc2, fc3⟩ := Fc _ rc
  obtain ⟨sd, cd0, cd1, cd2, cd3, fd0, fd1, fd2, fd3⟩ := Fd _ rd
  clear CALLS
  have Fg : ∀ X, Row X g (.cells gs 29) → (g < X.heap.size) := fun X h => h.1
  have sg := Fg _ rg
  have Fh : ∀ X, Row X h (.cells hs 31) → (h < X.heap.size) := fun X h => h.1
  have sh := Fh _ rh
  go_wp2_with fail
  refine (CALLW _ (he.below hB)).mono ?_
  rintro e W14 ⟨f2, u, uc, us, v, vc, vs, hf2, rfl, ru, rv, xu, xv, h1⟩
  clear sa ca0 ca1 ca2 ca3
  clear sb cb0 cb1 cb2 cb3
  clear sc cc0 cc1 cc2 cc3 fc0 fc1 fc2 fc3
  clear sd cd0 cd1 cd2 cd3 fd0 fd1 fd2 fd3
  clear sg
  clear sh
  replace hB := hB.trans (h1.mono hB.size)
  replace ra := Row.below ra h1
  replace rb := Row.below rb h1
  replace rc := Row.below rc h1
  replace rd := Row.below rd h1
  replace rg := Row.below rg h1
  replace rh := Row.below rh h1
  clear h1
  obtain ⟨sa, ca0, ca1, ca2, ca3⟩ := Fa _ ra
  obtain ⟨sb, cb0, cb1, cb2, cb3⟩ := Fb _ rb
  obtain ⟨sc, cc0, cc1, cc2, cc3, fc0, fc1, fc2, fc3⟩ := Fc _ rc
  obtain ⟨sd, cd0, cd1, cd2, cd3, fd0, fd1, fd2, fd3⟩ := Fd _ rd
  have sg := Fg _ rg
  have sh := Fh _ rh
  clear CALLW
  have Fu : ∀ X, Row X u (.cells us 29) → (u < X.heap.size) := fun X h => h.1
  have su := Fu _ ru
  have Fv : ∀ X, Row X v (.cells vs 31) → (v < X.heap.size) := fun X h => h.1
  have sv := Fv _ rv
  go_wp2_with fail
  go_loopw [18] (fun v18 wr => ∃ i : Nat, v18 = .int .i64 (i : Int) ∧ i ≤ 8 ∧ Below w.heap.size w wr ∧ Row wr W3.heap.size (.cells #[.string aln, .string ald, .string ahn, .string ahd] 29) ∧ Row wr W5.heap.size (.cells #[.string bln, .string bld, .string bhn, .string bhd] 29) ∧ Row wr W7.heap.size (.cells #[.string cln, .string cld, .string chn, .string chd] 29) ∧ Row wr (W7.heap.size + 1) (.cells #[.string dln, .string dld, .string dhn, .string dhd] 29) ∧ Row wr g (.cells gs 29) ∧ Row wr h (.cells hs 31) ∧ Row wr u (.cells us 29) ∧ Row wr v (.cells vs 31)) (fun v18 _ => (8 - intOf v18).toNat)
  case atStart => exact ⟨0, rfl, by omega, hB, ra, rb, rc, rd, rg, rh, ru, rv⟩
  case round =>
    clear sa ca0 ca1 ca2 ca3
    clear sb cb0 cb1 cb2 cb3
    clear sc cc0 cc1 cc2 cc3 fc0 fc1 fc2 fc3
    clear sd cd0 cd1 cd2 cd3 fd0 fd1 fd2 fd3
    clear sg
    clear sh
    clear su
    clear sv
    clear hB ra rb rc rd rg rh ru rv
    obtain ⟨i, rfl, hi8, hB, ra, rb, rc, rd, rg, rh, ru, rv⟩ := hrel
    rcases Nat.lt_or_ge i 8 with hlt | hge
    · have KK := KEY.out i hlt (f i) (f2 i) (hf i hlt) (hf2 i hlt)
      obtain ⟨g0, g1, g2, g3, h0⟩ := oCells8 f i hlt
      obtain ⟨u0, u1, u2, u3, v0⟩ := oCells8 f2 i hlt
      rcases KK with E2 | ⟨s, t, E1, E2, os, ds, dt, st⟩ | ⟨t, E5, E1, E2⟩
      · rw [E2] at u0 u1 u2 u3 v0
        obtain ⟨sa, ca0, ca1, ca2, ca3⟩ := Fa _ ra
        obtain ⟨sb, cb0, cb1, cb2, cb3⟩ := Fb _ rb
        obtain ⟨sc, cc0, cc1, cc2, cc3, fc0, fc1, fc2, fc3⟩ := Fc _ rc
        obtain ⟨sd, cd0, cd1, cd2, cd3, fd0, fd1, fd2, fd3⟩ := Fd _ rd
        have sg := Fg _ rg
        have sh := Fh _ rh
        have su := Fu _ ru
        clear Fv
        have Fv : ∀ X, Row X v (.cells vs 31) → (v < X.heap.size ∧ X.cell? ⟨v, i, none⟩ = some (.int .i64 50)) := fun X h => ⟨h.1, Row.cell_take h xv v0⟩
        obtain ⟨sv, cv0⟩ := Fv _ rv
        have hlt8 : (i : Int) < 8 := by omega
        clear KEY hf hf2
        go_wp2_with fail
        refine wp_region_vals [.slice (some ⟨v, 0, none⟩) 8 vc, .int .i64 (i : Int), .pointer (some ⟨v, i, none⟩), .int .i64 50, .bool false, .bool false, undef, undef, undef, undef, undef, .bool false, .bool false, undef, undef, undef, undef, undef, undef, undef, undef, undef, undef, .bool false, .bool false, .slice (some ⟨v, 0, none⟩) 8 vc, .int .i64 (i : Int), .pointer (some ⟨v, i, none⟩), .int .i64 50, .bool false, .bool false, undef, undef, undef, undef, undef, .bool false, .bool false, undef, undef, .bool false, .bool false] (by kernel_rfl) (by kernel_rfl) rfl (allVals.cons ?_ (allVals.cons ?_ (allVals.cons ?_ (allVals.cons ?_ (allVals.cons ?_ (allVals.cons ?_ (allVals.cons ?_ (allVals.cons ?_ (allVals.cons ?_ (allVals.cons ?_ (allVals.cons ?_ (allVals.cons ?_ (allVals.cons ?_ (allVals.cons ?_ (allVals.cons ?_ (allVals.cons ?_ (allVals.cons ?_ (allVals.cons ?_ (allVals.cons ?_ (allVals.cons ?_ (allVals.cons ?_ (allVals.cons ?_ (allVals.cons ?_ (allVals.cons ?_ (allVals.cons ?_ (allVals.cons ?_ (allVals.cons ?_ (allVals.cons ?_ (allVals.cons ?_ (allVals.cons ?_ (allVals.cons ?_ (allVals.cons ?_ (allVals.cons ?_ (allVals.cons ?_ (allVals.cons ?_ (allVals.cons ?_ (allVals.cons ?_ (allVals.cons ?_ (allVals.cons ?_ (allVals.cons ?_ (allVals.cons ?_ (allVals.cons ?_ (trivial))))))))))))))))))))))))))))))))))))))))))) ?_
        · intro ρ X qX qc qg qf qt qd
          simp [depsAre] at qd
          have t17 : ρ (.tmp 17) = .slice (some ⟨v, 0, none⟩) 8 vc := qt 17 rfl
          simp [Region.wanted, yieldedBy, quietly, execOp, go_sem, qc, qd, Below.refl, t17, hlt8]
        · intro ρ X qX qc qg qf qt qd
          simp [depsAre] at qd
          have t18 : ρ (.tmp 18) = .int .i64 (i : Int) := qt 18 rfl
          simp [Region.wanted, yieldedBy, quietly, execOp, go_sem, qc, qd, Below.refl, t18, hlt8]
        · intro ρ X qX qc qg qf qt qd
          simp [depsAre] at qd
          simp [Region.wanted, yieldedBy, quietly, execOp, go_sem, qc, qd, Below.refl, hlt8]
        · intro ρ X qX qc qg qf qt qd
          simp [depsAre] at qd
          obtain ⟨y0, y1⟩ := Fv _ (Row.below rv qX)
          simp [Region.wanted, yieldedBy, quietly, execOp, go_sem, qc, qd, Below.refl, y0, y1, hlt8]
        · intro ρ X qX qc qg qf qt qd
          simp [depsAre] at qd
          simp [Region.wanted, yieldedBy, quietly, execOp, go_sem, qc, qd, Below.refl, hlt8]
        · intro ρ X qX qc qg qf qt qd
          simp [depsAre] at qd
          simp [Region.wanted, yieldedBy, quietly, execOp, go_sem, qc, qd, Below.refl, hlt8]
        · intro ρ X qX qc qg qf qt qd
          simp [depsAre] at qd
          have t15 : ρ (.tmp 15) = .slice (some ⟨h, 0, none⟩) 8 hc := qt 15 rfl
          simp [Region.wanted, yieldedBy, quietly, execOp, go_sem, qc, qd, Below.refl, t15, hlt8]
        · intro ρ X qX qc qg qf qt qd
          simp [depsAre] at qd
          have t18 : ρ (.tmp 18) = .int .i64 (i : Int) := qt 18 rfl
          simp [Region.wanted, yieldedBy, quietly, execOp, go_sem, qc, qd, Below.refl, t18, hlt8]
        · intro ρ X qX qc qg qf qt qd
          simp [depsAre] at qd
          simp [Region.wanted, yieldedBy, quietly, execOp, go_sem, qc, qd, Below.refl, hlt8]
        · intro ρ X qX qc qg qf qt qd
          simp [depsAre] at qd
          simp [Region.wanted, yieldedBy, quietly, execOp, go_sem, qc, qd, Below.refl, hlt8]
        · intro ρ X qX qc qg qf qt qd
          simp [depsAre] at qd
          simp [Region.wanted, yieldedBy, quietly, execOp, go_sem, qc, qd, Below.refl, hlt8]
        · intro ρ X qX qc qg qf qt qd
          simp [depsAre] at qd
          simp [Region.wanted, yieldedBy, quietly, execOp, go_sem, qc, qd, Below.refl, hlt8]
        · intro ρ X qX qc qg qf qt qd
          simp [depsAre] at qd
          simp [Region.wanted, yieldedBy, quietly, execOp, go_sem, qc, qd, Below.refl, hlt8]
        · intro ρ X qX qc qg qf qt qd
          simp [depsAre] at qd
          have t14 : ρ (.tmp 14) = .slice (some ⟨g, 0, none⟩) 8 gc := qt 14 rfl
          simp [Region.wanted, yieldedBy, quietly, execOp, go_sem, qc, qd, Below.refl, t14, hlt8]
        · intro ρ X qX qc qg qf qt qd
          simp [depsAre] at qd
          have t18 : ρ (.tmp 18) = .int .i64 (i : Int) := qt 18 rfl
          simp [Region.wanted, yieldedBy, quietly, execOp, go_sem, qc, qd, Below.refl, t18, hlt8]
        · intro ρ X qX qc qg qf qt qd
          simp [depsAre] at qd
          simp [Region.wanted, yieldedBy, quietly, execOp, go_sem, qc, qd, Below.refl, hlt8]
        · intro ρ X qX qc qg qf qt qd
          simp [depsAre] at qd
          simp [Region.wanted, yieldedBy, quietly, execOp, go_sem, qc, qd, Below.refl, hlt8]
        · intro ρ X qX qc qg qf qt qd
          simp [depsAre] at qd
          have t16 : ρ (.tmp 16) = .slice (some ⟨u, 0, none⟩) 8 uc := qt 16 rfl
          simp [Region.wanted, yieldedBy, quietly, execOp, go_sem, qc, qd, Below.refl, t16, hlt8]
        · intro ρ X qX qc qg qf qt qd
          simp [depsAre] at qd
          have t18 : ρ (.tmp 18) = .int .i64 (i : Int) := qt 18 rfl
          simp [Region.wanted, yieldedBy, quietly, execOp, go_sem, qc, qd, Below.refl, t18, hlt8]
        · intro ρ X qX qc qg qf qt qd
          simp [depsAre] at qd
          simp [Region.wanted, yieldedBy, quietly, execOp, go_sem, qc, qd, Below.refl, hlt8]
        · intro ρ X qX qc qg qf qt qd
          simp [depsAre] at qd
          simp [Region.wanted, yieldedBy, quietly, execOp, go_sem, qc, qd, Below.refl, hlt8]
        · intro ρ X qX qc qg qf qt qd
          simp [depsAre] at qd
          simp [Region.wanted, yieldedBy, quietly, execOp, go_sem, qc, qd, Below.refl, hlt8]
        · intro ρ X qX qc qg qf qt qd
          simp [depsAre] at qd
          simp [Region.wanted, yieldedBy, quietly, execOp, go_sem, qc, qd, Below.refl, hlt8]
        · intro ρ X qX qc qg qf qt qd
          simp [depsAre] at qd
          simp [Region.wanted, yieldedBy, quietly, execOp, go_sem, qc, qd, Below.refl, hlt8]
        · intro ρ X qX qc qg qf qt qd
          simp [depsAre] at qd
          simp [Region.wanted, yieldedBy, quietly, execOp, go_sem, qc, qd, Below.refl, hlt8]
        · intro ρ X qX qc qg qf qt qd
          simp [depsAre] at qd
          have t17 : ρ (.tmp 17) = .slice (some ⟨v, 0, none⟩) 8 vc := qt 17 rfl
          simp [Region.wanted, yieldedBy, quietly, execOp, go_sem, qc, qd, Below.refl, t17, hlt8]
        · intro ρ X qX qc qg qf qt qd
          simp [depsAre] at qd
          have t18 : ρ (.tmp 18) = .int .i64 (i : Int) := qt 18 rfl
          simp [Region.wanted, yieldedBy, quietly, execOp, go_sem, qc, qd, Below.refl, t18, hlt8]
        · intro ρ X qX qc qg qf qt qd
          simp [depsAre] at qd
          simp [Region.wanted, yieldedBy, quietly, execOp, go_sem, qc, qd, Below.refl, hlt8]
        · intro ρ X qX qc qg qf qt qd
          simp [depsAre] at qd
          obtain ⟨y0, y1⟩ := Fv _ (Row.below rv qX)
          simp [Region.wanted, yieldedBy, quietly, execOp, go_sem, qc, qd, Below.refl, y0, y1, hlt8]
        · intro ρ X qX qc qg qf qt qd
          simp [depsAre] at qd
          simp [Region.wanted, yieldedBy, quietly, execOp, go_sem, qc, qd, Below.refl, hlt8]
        · intro ρ X qX qc qg qf qt qd
          simp [depsAre] at qd
          simp [Region.wanted, yieldedBy, quietly, execOp, go_sem, qc, qd, Below.refl, hlt8]
        · intro ρ X qX qc qg qf qt qd
          simp [depsAre] at qd
          have t15 : ρ (.tmp 15) = .slice (some ⟨h, 0, none⟩) 8 hc := qt 15 rfl
          simp [Region.wanted, yieldedBy, quietly, execOp, go_sem, qc, qd, Below.refl, t15, hlt8]
        · intro ρ X qX qc qg qf qt qd
          simp [depsAre] at qd
          have t18 : ρ (.tmp 18) = .int .i64 (i : Int) := qt 18 rfl
          simp [Region.wanted, yieldedBy, quietly, execOp, go_sem, qc, qd, Below.refl, t18, hlt8]
        · intro ρ X qX qc qg qf qt qd
          simp [depsAre] at qd
          simp [Region.wanted, yieldedBy, quietly, execOp, go_sem, qc, qd, Below.refl, hlt8]
        · intro ρ X qX qc qg qf qt qd
          simp [depsAre] at qd
          simp [Region.wanted, yieldedBy, quietly, execOp, go_sem, qc, qd, Below.refl, hlt8]
        · intro ρ X qX qc qg qf qt qd
          simp [depsAre] at qd
          simp [Region.wanted, yieldedBy, quietly, execOp, go_sem, qc, qd, Below.refl, hlt8]
        · intro ρ X qX qc qg qf qt qd
          simp [depsAre] at qd
          simp [Region.wanted, yieldedBy, quietly, execOp, go_sem, qc, qd, Below.refl, hlt8]
        · intro ρ X qX qc qg qf qt qd
          simp [depsAre] at qd
          simp [Region.wanted, yieldedBy, quietly, execOp, go_sem, qc, qd, Below.refl, hlt8]
        · intro ρ X qX qc qg qf qt qd
          simp [depsAre] at qd
          have t18 : ρ (.tmp 18) = .int .i64 (i : Int) := qt 18 rfl
          simp [Region.wanted, yieldedBy, quietly, execOp, go_sem, qc, qd, Below.refl, t18, hlt8]
        · intro ρ X qX qc qg qf qt qd
          simp [depsAre] at qd
          simp [Region.wanted, yieldedBy, quietly, execOp, go_sem, qc, qd, Below.refl, hlt8]
        · intro ρ X qX qc qg qf qt qd
          simp [depsAre] at qd
          simp [Region.wanted, yieldedBy, quietly, execOp, go_sem, qc, qd, Below.refl, hlt8]
        · intro ρ X qX qc qg qf qt qd
          simp [depsAre] at qd
          simp [Region.wanted, yieldedBy, quietly, execOp, go_sem, qc, qd, Below.refl, hlt8]
        rintro W h1
        clear sa ca0 ca1 ca2 ca3
        clear sb cb0 cb1 cb2 cb3
        clear sc cc0 cc1 cc2 cc3 fc0 fc1 fc2 fc3
        clear sd cd0 cd1 cd2 cd3 fd0 fd1 fd2 fd3
        clear sg
        clear sh
        clear su
        clear sv cv0
        replace hB := hB.trans (h1.mono hB.size)
        replace ra := Row.below ra h1
        replace rb := Row.below rb h1
        replace rc := Row.below rc h1
        replace rd := Row.below rd h1
        replace rg := Row.below rg h1
        replace rh := Row.below rh h1
        replace ru := Row.below ru h1
        replace rv := Row.below rv h1
        clear h1
        obtain ⟨sa, ca0, ca1, ca2, ca3⟩ := Fa _ ra
        obtain ⟨sb, cb0, cb1, cb2, cb3⟩ := Fb _ rb
        obtain ⟨sc, cc0, cc1, cc2, cc3, fc0, fc1, fc2, fc3⟩ := Fc _ rc
        obtain ⟨sd, cd0, cd1, cd2, cd3, fd0, fd1, fd2, fd3⟩ := Fd _ rd
        have sg := Fg _ rg
        have sh := Fh _ rh
        have su := Fu _ ru
        obtain ⟨sv, cv0⟩ := Fv _ rv
        simp only [setVals, List.setIfInBounds_toArray, List.set_cons_succ, List.set_cons_zero]
        go_wp2
        go_roundw
        case rel => exact ⟨i + 1, by go_num, by omega, (by repeat (first | (with_reducible exact hB) | (with_reducible exact Below.refl _ _) | (with_reducible refine Below.drew ?_) | (with_reducible refine below_drewN ?_ _) | (with_reducible refine Below.alloc ?_ (by first | omega | (simp; done) | (simp; omega)) _) | (with_reducible refine Below.setCell ?_ (by first | omega | (simp; done) | (simp; omega)) _))), (by repeat (first | (with_reducible exact ra) | (with_reducible exact row_new' (by first | omega | (simp; done) | (simp; omega))) | (with_reducible refine Row.drew ?_) | (with_reducible refine Row.drewN ?_ _) | (with_reducible refine Row.alloc ?_ _) | (with_reducible apply Row.set4) | (with_reducible apply Row.set4a) | (with_reducible apply Row.set4b) | (with_reducible apply Row.set2) | (with_reducible apply Row.set1) | (with_reducible refine Row.set_other ?_ _ (by first | omega | (simp; done) | (simp; omega))))), (by repeat (first | (with_reducible exact rb) | (with_reducible exact row_new' (by first | omega | (simp; done) | (simp; omega))) | (with_reducible refine Row.drew ?_) | (with_reducible refine Row.drewN ?_ _) | (with_reducible refine Row.alloc ?_ _) | (with_reducible apply Row.set4) | (with_reducible apply Row.set4a) | (with_reducible apply Row.set4b) | (with_reducible apply Row.set2) | (with_reducible apply Row.set1) | (with_reducible refine Row.set_other ?_ _ (by first | omega | (simp; done) | (simp; omega))))), (by repeat (first | (with_reducible exact rc) | (with_reducible exact row_new' (by first | omega | (simp; done) | (simp; omega))) | (with_reducible refine Row.drew ?_) | (with_reducible refine Row.drewN ?_ _) | (with_reducible refine Row.alloc ?_ _) | (with_reducible apply Row.set4) | (with_reducible apply Row.set4a) | (with_reducible apply Row.set4b) | (with_reducible apply Row.set2) | (with_reducible apply Row.set1) | (with_reducible refine Row.set_other ?_ _ (by first | omega | (simp; done) | (simp; omega))))), (by repeat (first | (with_reducible exact rd) | (with_reducible exact row_new' (by first | omega | (simp; done) | (simp; omega))) | (with_reducible refine Row.drew ?_) | (with_reducible refine Row.drewN ?_ _) | (with_reducible refine Row.alloc ?_ _) | (with_reducible apply Row.set4) | (with_reducible apply Row.set4a) | (with_reducible apply Row.set4b) | (with_reducible apply Row.set2) | (with_reducible apply Row.set1) | (with_reducible refine Row.set_other ?_ _ (by first | omega | (simp; done) | (simp; omega))))), (by repeat (first | (with_reducible exact rg) | (with_reducible exact row_new' (by first | omega | (simp; done) | (simp; omega))) | (with_reducible refine Row.drew ?_) | (with_reducible refine Row.drewN ?_ _) | (with_reducible refine Row.alloc ?_ _) | (with_reducible apply Row.set4) | (with_reducible apply Row.set4a) | (with_reducible apply Row.set4b) | (with_reducible apply Row.set2) | (with_reducible apply Row.set1) | (with_reducible refine Row.set_other ?_ _ (by first | omega | (simp; done) | (simp; omega))))), (by repeat (first | (with_reducible exact rh) | (with_reducible exact row_new' (by first | omega | (simp; done) | (simp; omega))) | (with_reducible refine Row.drew ?_) | (with_reducible refine Row.drewN ?_ _) | (with_reducible refine Row.alloc ?_ _) | (with_reducible apply Row.set4) | (with_reducible apply Row.set4a) | (with_reducible apply Row.set4b) | (with_reducible apply Row.set2) | (with_reducible apply Row.set1) | (with_reducible refine Row.set_other ?_ _ (by first | omega | (simp; done) | (simp; omega))))), (by repeat (first | (with_reducible exact ru) | (with_reducible exact row_new' (by first | omega | (simp; done) | (simp; omega))) | (with_reducible refine Row.drew ?_) | (with_reducible refine Row.drewN ?_ _) | (with_reducible refine Row.alloc ?_ _) | (with_reducible apply Row.set4) | (with_reducible apply Row.set4a) | (with_reducible apply Row.set4b) | (with_reducible apply Row.set2) | (with_reducible apply Row.set1) | (with_reducible refine Row.set_other ?_ _ (by first | omega | (simp; done) | (simp; omega))))), (by repeat (first | (with_reducible exact rv) | (with_reducible exact row_new' (by first | omega | (simp; done) | (simp; omega))) | (with_reducible refine Row.drew ?_) | (with_reducible refine Row.drewN ?_ _) | (with_reducible refine Row.alloc ?_ _) | (with_reducible apply Row.set4) | (with_reducible apply Row.set4a) | (with_reducible apply Row.set4b) | (with_reducible apply Row.set2) | (with_reducible apply Row.set1) | (with_reducible refine Row.set_other ?_ _ (by first | omega | (simp; done) | (simp; omega)))))⟩
        case measure => simp [intOf]; omega
      · rw [E2] at u0 u1 u2 u3 v0
        rw [E1] at g0 g1 g2 g3 h0
        have WI := fun W (h : Env W) => ewithin s t (ds.mono (by omega)) (dt.mono (by omega)) os st W h
        unfold BoolOk at WI
        unfold I at WI
        unfold oS1 at g0 u0
        unfold oS2 at g1 u1
        unfold oS3 at g2 u2
        unfold oS4 at g3 u3
        simp only at g0 g1 g2 g3 u0 u1 u2 u3
        clear ds dt os st
        generalize hg : S s.lo.num = sln at *
        clear hg
        generalize hg : S (s.lo.den : Int) = sld at *
        clear hg
        generalize hg : S s.hi.num = shn at *
        clear hg
        generalize hg : S (s.hi.den : Int) = shd at *
        clear hg
        generalize hg : S t.lo.num = tln at *
        clear hg
        generalize hg : S (t.lo.den : Int) = tld at *
        clear hg
        generalize hg : S t.hi.num = thn at *
        clear hg
        generalize hg : S (t.hi.den : Int) = thd at *
        clear hg
        obtain ⟨sa, ca0, ca1, ca2, ca3⟩ := Fa _ ra
        obtain ⟨sb, cb0, cb1, cb2, cb3⟩ := Fb _ rb
        obtain ⟨sc, cc0, cc1, cc2, cc3, fc0, fc1, fc2, fc3⟩ := Fc _ rc
        obtain ⟨sd, cd0, cd1, cd2, cd3, fd0, fd1, fd2, fd3⟩ := Fd _ rd
        clear Fg
        have Fg : ∀ X, Row X g (.cells gs 29) → (g < X.heap.size ∧ X.cell? ⟨g, i * 4, none⟩ = some (.string sln) ∧ X.cell? ⟨g, i * 4 + 1, none⟩ = some (.string sld) ∧ X.cell? ⟨g, i * 4 + 2, none⟩ = some (.string shn) ∧ X.cell? ⟨g, i * 4 + 3, none⟩ = some (.string shd)) := fun X h => ⟨h.1, Row.cell_take h xg g0, Row.cell_take h xg g1, Row.cell_take h xg g2, Row.cell_take h xg g3⟩
        obtain ⟨sg, cg0, cg1, cg2, cg3⟩ := Fg _ rg
        clear Fh
        have Fh : ∀ X, Row X h (.cells hs 31) → (h < X.heap.size ∧ X.cell? ⟨h, i, none⟩ = some (.int .i64 0)) := fun X h => ⟨h.1, Row.cell_take h xh h0⟩
        obtain ⟨sh, ch0⟩ := Fh _ rh
        clear Fu
        have Fu : ∀ X, Row X u (.cells us 29) → (u < X.heap.size ∧ X.cell? ⟨u, i * 4, none⟩ = some (.string tln) ∧ X.cell? ⟨u, i * 4 + 1, none⟩ = some (.string tld) ∧ X.cell? ⟨u, i * 4 + 2, none⟩ = some (.string thn) ∧ X.cell? ⟨u, i * 4 + 3, none⟩ = some (.string thd)) := fun X h => ⟨h.1, Row.cell_take h xu u0, Row.cell_take h xu u1, Row.cell_take h xu u2, Row.cell_take h xu u3⟩
        obtain ⟨su, cu0, cu1, cu2, cu3⟩ := Fu _ ru
        clear Fv
        have Fv : ∀ X, Row X v (.cells vs 31) → (v < X.heap.size ∧ X.cell? ⟨v, i, none⟩ = some (.int .i64 0)) := fun X h => ⟨h.1, Row.cell_take h xv v0⟩
        obtain ⟨sv, cv0⟩ := Fv _ rv
        have hlt8 : (i : Int) < 8 := by omega
        clear KEY hf hf2
        go_wp2_with fail
        refine wp_region_vals [.slice (some ⟨v, 0, none⟩) 8 vc, .int .i64 (i : Int), .pointer (some ⟨v, i, none⟩), .int .i64 0, .bool true, .bool true, .slice (some ⟨h, 0, none⟩) 8 hc, .int .i64 (i : Int), .pointer (some ⟨h, i, none⟩), .int .i64 0, .bool true, .bool true, .bool true, .slice (some ⟨g, 0, none⟩) 8 gc, .int .i64 (i : Int), .pointer (some ⟨g, i * 4, none⟩), .agg #[.string sln, .string sld, .string shn, .string shd], .slice (some ⟨u, 0, none⟩) 8 uc, .int .i64 (i : Int), .pointer (some ⟨u, i * 4, none⟩), .agg #[.string tln, .string tld, .string thn, .string thd], .bool true, .bool false, .bool false, .bool false, .slice (some ⟨v, 0, none⟩) 8 vc, .int .i64 (i : Int), .pointer (some ⟨v, i, none⟩), .int .i64 0, .bool true, .bool true, .slice (some ⟨h, 0, none⟩) 8 hc, .int .i64 (i : Int), .pointer (some ⟨h, i, none⟩), .int .i64 0, .bool false, .bool false, .bool false, undef, undef, .bool false, .bool false] (by kernel_rfl) (by kernel_rfl) rfl (allVals.cons ?_ (allVals.cons ?_ (allVals.cons ?_ (allVals.cons ?_ (allVals.cons ?_ (allVals.cons ?_ (allVals.cons ?_ (allVals.cons ?_ (allVals.cons ?_ (allVals.cons ?_ (allVals.cons ?_ (allVals.cons ?_ (allVals.cons ?_ (allVals.cons ?_ (allVals.cons ?_ (allVals.cons ?_ (allVals.cons ?_ (allVals.cons ?_ (allVals.cons ?_ (allVals.cons ?_ (allVals.cons ?_ (allVals.cons ?_ (allVals.cons ?_ (allVals.cons ?_ (allVals.cons ?_ (allVals.cons ?_ (allVals.cons ?_ (allVals.cons ?_ (allVals.cons ?_ (allVals.cons ?_ (allVals.cons ?_ (allVals.cons ?_ (allVals.cons ?_ (allVals.cons ?_ (allVals.cons ?_ (allVals.cons ?_ (allVals.cons ?_ (allVals.cons ?_ (allVals.cons ?_ (allVals.cons ?_ (allVals.cons ?_ (allVals.cons ?_ (trivial))))))))))))))))))))))))))))))))))))))))))) ?_
        · intro ρ X qX qc qg qf qt qd
          simp [depsAre] at qd
          have t17 : ρ (.tmp 17) = .slice (some ⟨v, 0, none⟩) 8 vc := qt 17 rfl
          simp [Region.wanted, yieldedBy, quietly, execOp, go_sem, qc, qd, Below.refl, t17, hlt8]
        · intro ρ X qX qc qg qf qt qd
          simp [depsAre] at qd
          have t18 : ρ (.tmp 18) = .int .i64 (i : Int) := qt 18 rfl
          simp [Region.wanted, yieldedBy, quietly, execOp, go_sem, qc, qd, Below.refl, t18, hlt8]
        · intro ρ X qX qc qg qf qt qd
          simp [depsAre] at qd
          simp [Region.wanted, yieldedBy, quietly, execOp, go_sem, qc, qd, Below.refl, hlt8]
        · intro ρ X qX qc qg qf qt qd
          simp [depsAre] at qd
          obtain ⟨y0, y1⟩ := Fv _ (Row.below rv qX)
          simp [Region.wanted, yieldedBy, quietly, execOp, go_sem, qc, qd, Below.refl, y0, y1, hlt8]
        · intro ρ X qX qc qg qf qt qd
          simp [depsAre] at qd
          simp [Region.wanted, yieldedBy, quietly, execOp, go_sem, qc, qd, Below.refl, hlt8]
        · intro ρ X qX qc qg qf qt qd
          simp [depsAre] at qd
          simp [Region.wanted, yieldedBy, quietly, execOp, go_sem, qc, qd, Below.refl, hlt8]
        · intro ρ X qX qc qg qf qt qd
          simp [depsAre] at qd
          have t15 : ρ (.tmp 15) = .slice (some ⟨h, 0, none⟩) 8 hc := qt 15 rfl
          simp [Region.wanted, yieldedBy, quietly, execOp, go_sem, qc, qd, Below.refl, t15, hlt8]
        · intro ρ X qX qc qg qf qt qd
          simp [depsAre] at qd
          have t18 : ρ (.tmp 18) = .int .i64 (i : Int) := qt 18 rfl
          simp [Region.wanted, yieldedBy, quietly, execOp, go_sem, qc, qd, Below.refl, t18, hlt8]
        · intro ρ X qX qc qg qf qt qd
          simp [depsAre] at qd
          simp [Region.wanted, yieldedBy, quietly, execOp, go_sem, qc, qd, Below.refl, hlt8]
        · intro ρ X qX qc qg qf qt qd
          simp [depsAre] at qd
          obtain ⟨y0, y1⟩ := Fh _ (Row.below rh qX)
          simp [Region.wanted, yieldedBy, quietly, execOp, go_sem, qc, qd, Below.refl, y0, y1, hlt8]
        · intro ρ X qX qc qg qf qt qd
          simp [depsAre] at qd
          simp [Region.wanted, yieldedBy, quietly, execOp, go_sem, qc, qd, Below.refl, hlt8]
        · intro ρ X qX qc qg qf qt qd
          simp [depsAre] at qd
          simp [Region.wanted, yieldedBy, quietly, execOp, go_sem, qc, qd, Below.refl, hlt8]
        · intro ρ X qX qc qg qf qt qd
          simp [depsAre] at qd
          simp [Region.wanted, yieldedBy, quietly, execOp, go_sem, qc, qd, Below.refl, hlt8]
        · intro ρ X qX qc qg qf qt qd
          simp [depsAre] at qd
          have t14 : ρ (.tmp 14) = .slice (some ⟨g, 0, none⟩) 8 gc := qt 14 rfl
          simp [Region.wanted, yieldedBy, quietly, execOp, go_sem, qc, qd, Below.refl, t14, hlt8]
        · intro ρ X qX qc qg qf qt qd
          simp [depsAre] at qd
          have t18 : ρ (.tmp 18) = .int .i64 (i : Int) := qt 18 rfl
          simp [Region.wanted, yieldedBy, quietly, execOp, go_sem, qc, qd, Below.refl, t18, hlt8]
        · intro ρ X qX qc qg qf qt qd
          simp [depsAre] at qd
          simp [Region.wanted, yieldedBy, quietly, execOp, go_sem, qc, qd, Below.refl, hlt8]
        · intro ρ X qX qc qg qf qt qd
          simp [depsAre] at qd
          obtain ⟨y0, y1, y2, y3, y4⟩ := Fg _ (Row.below rg qX)
          simp [Region.wanted, yieldedBy, quietly, execOp, go_sem, qc, qd, Below.refl, y0, y1, y2, y3, y4, hlt8]
        · intro ρ X qX qc qg qf qt qd
          simp [depsAre] at qd
          have t16 : ρ (.tmp 16) = .slice (some ⟨u, 0, none⟩) 8 uc := qt 16 rfl
          simp [Region.wanted, yieldedBy, quietly, execOp, go_sem, qc, qd, Below.refl, t16, hlt8]
        · intro ρ X qX qc qg qf qt qd
          simp [depsAre] at qd
          have t18 : ρ (.tmp 18) = .int .i64 (i : Int) := qt 18 rfl
          simp [Region.wanted, yieldedBy, quietly, execOp, go_sem, qc, qd, Below.refl, t18, hlt8]
        · intro ρ X qX qc qg qf qt qd
          simp [depsAre] at qd
          simp [Region.wanted, yieldedBy, quietly, execOp, go_sem, qc, qd, Below.refl, hlt8]
        · intro ρ X qX qc qg qf qt qd
          simp [depsAre] at qd
          obtain ⟨y0, y1, y2, y3, y4⟩ := Fu _ (Row.below ru qX)
          simp [Region.wanted, yieldedBy, quietly, execOp, go_sem, qc, qd, Below.refl, y0, y1, y2, y3, y4, hlt8]
        · intro ρ X qX qc qg qf qt qd
          simp [depsAre] at qd
          simp [Region.wanted, yieldedBy, quietly, execOp, go_sem, qc, qd, qf]
          refine ⟨Below.refl _ _, (WI _ (he.env.below (hB.trans (qX.mono hB.size)))).mono ?_⟩
          rintro e Y ⟨rfl, h1⟩
          exact ⟨_, rfl, rfl, h1⟩
        · intro ρ X qX qc qg qf qt qd
          simp [depsAre] at qd
          simp [Region.wanted, yieldedBy, quietly, execOp, go_sem, qc, qd, Below.refl, hlt8]
        · intro ρ X qX qc qg qf qt qd
          simp [depsAre] at qd
          simp [Region.wanted, yieldedBy, quietly, execOp, go_sem, qc, qd, Below.refl, hlt8]
        · intro ρ X qX qc qg qf qt qd
          simp [depsAre] at qd
          simp [Region.wanted, yieldedBy, quietly, execOp, go_sem, qc, qd, Below.refl, hlt8]
        · intro ρ X qX qc qg qf qt qd
          simp [depsAre] at qd
          have t17 : ρ (.tmp 17) = .slice (some ⟨v, 0, none⟩) 8 vc := qt 17 rfl
          simp [Region.wanted, yieldedBy, quietly, execOp, go_sem, qc, qd, Below.refl, t17, hlt8]
        · intro ρ X qX qc qg qf qt qd
          simp [depsAre] at qd
          have t18 : ρ (.tmp 18) = .int .i64 (i : Int) := qt 18 rfl
          simp [Region.wanted, yieldedBy, quietly, execOp, go_sem, qc, qd, Below.refl, t18, hlt8]
        · intro ρ X qX qc qg qf qt qd
          simp [depsAre] at qd
          simp [Region.wanted, yieldedBy, quietly, execOp, go_sem, qc, qd, Below.refl, hlt8]
        · intro ρ X qX qc qg qf qt qd
          simp [depsAre] at qd
          obtain ⟨y0, y1⟩ := Fv _ (Row.below rv qX)
          simp [Region.wanted, yieldedBy, quietly, execOp, go_sem, qc, qd, Below.refl, y0, y1, hlt8]
        · intro ρ X qX qc qg qf qt qd
          simp [depsAre] at qd
          simp [Region.wanted, yieldedBy, quietly, execOp, go_sem, qc, qd, Below.refl, hlt8]
        · intro ρ X qX qc qg qf qt qd
          simp [depsAre] at qd
          simp [Region.wanted, yieldedBy, quietly, execOp, go_sem, qc, qd, Below.refl, hlt8]
        · intro ρ X qX qc qg qf qt qd
          simp [depsAre] at qd
          have t15 : ρ (.tmp 15) = .slice (some ⟨h, 0, none⟩) 8 hc := qt 15 rfl
          simp [Region.wanted, yieldedBy, quietly, execOp, go_sem, qc, qd, Below.refl, t15, hlt8]
        · intro ρ X qX qc qg qf qt qd
          simp [depsAre] at qd
          have t18 : ρ (.tmp 18) = .int .i64 (i : Int) := qt 18 rfl
          simp [Region.wanted, yieldedBy, quietly, execOp, go_sem, qc, qd, Below.refl, t18, hlt8]
        · intro ρ X qX qc qg qf qt qd
          simp [depsAre] at qd
          simp [Region.wanted, yieldedBy, quietly, execOp, go_sem, qc, qd, Below.refl, hlt8]
        · intro ρ X qX qc qg qf qt qd
          simp [depsAre] at qd
          obtain ⟨y0, y1⟩ := Fh _ (Row.below rh qX)
          simp [Region.wanted, yieldedBy, quietly, execOp, go_sem, qc, qd, Below.refl, y0, y1, hlt8]
        · intro ρ X qX qc qg qf qt qd
          simp [depsAre] at qd
          simp [Region.wanted, yieldedBy, quietly, execOp, go_sem, qc, qd, Below.refl, hlt8]
        · intro ρ X qX qc qg qf qt qd
          simp [depsAre] at qd
          simp [Region.wanted, yieldedBy, quietly, execOp, go_sem, qc, qd, Below.refl, hlt8]
        · intro ρ X qX qc qg qf qt qd
          simp [depsAre] at qd
          simp [Region.wanted, yieldedBy, quietly, execOp, go_sem, qc, qd, Below.refl, hlt8]
        · intro ρ X qX qc qg qf qt qd
          simp [depsAre] at qd
          have t18 : ρ (.tmp 18) = .int .i64 (i : Int) := qt 18 rfl
          simp [Region.wanted, yieldedBy, quietly, execOp, go_sem, qc, qd, Below.refl, t18, hlt8]
        · intro ρ X qX qc qg qf qt qd
          simp [depsAre] at qd
          simp [Region.wanted, yieldedBy, quietly, execOp, go_sem, qc, qd, Below.refl, hlt8]
        · intro ρ X qX qc qg qf qt qd
          simp [depsAre] at qd
          simp [Region.wanted, yieldedBy, quietly, execOp, go_sem, qc, qd, Below.refl, hlt8]
        · intro ρ X qX qc qg qf qt qd
          simp [depsAre] at qd
          simp [Region.wanted, yieldedBy, quietly, execOp, go_sem, qc, qd, Below.refl, hlt8]
        rintro W h1
        clear sa ca0 ca1 ca2 ca3
        clear sb cb0 cb1 cb2 cb3
        clear sc cc0 cc1 cc2 cc3 fc0 fc1 fc2 fc3
        clear sd cd0 cd1 cd2 cd3 fd0 fd1 fd2 fd3
        clear sg cg0 cg1 cg2 cg3
        clear sh ch0
        clear su cu0 cu1 cu2 cu3
        clear sv cv0
        replace hB := hB.trans (h1.mono hB.size)
        replace ra := Row.below ra h1
        replace rb := Row.below rb h1
        replace rc := Row.below rc h1
        replace rd := Row.below rd h1
        replace rg := Row.below rg h1
        replace rh := Row.below rh h1
        replace ru := Row.below ru h1
        replace rv := Row.below rv h1
        clear h1
        obtain ⟨sa, ca0, ca1, ca2, ca3⟩ := Fa _ ra
        obtain ⟨sb, cb0, cb1, cb2, cb3⟩ := Fb _ rb
        obtain ⟨sc, cc0, cc1, cc2, cc3, fc0, fc1, fc2, fc3⟩ := Fc _ rc
        obtain ⟨sd, cd0, cd1, cd2, cd3, fd0, fd1, fd2, fd3⟩ := Fd _ rd
        obtain ⟨sg, cg0, cg1, cg2, cg3⟩ := Fg _ rg
        obtain ⟨sh, ch0⟩ := Fh _ rh
        obtain ⟨su, cu0, cu1, cu2, cu3⟩ := Fu _ ru
        obtain ⟨sv, cv0⟩ := Fv _ rv
        simp only [setVals, List.setIfInBounds_toArray, List.set_cons_succ, List.set_cons_zero]
        go_wp2
        go_roundw
        case rel => exact ⟨i + 1, by go_num, by omega, (by repeat (first | (with_reducible exact hB) | (with_reducible exact Below.refl _ _) | (with_reducible refine Below.drew ?_) | (with_reducible refine below_drewN ?_ _) | (with_reducible refine Below.alloc ?_ (by first | omega | (simp; done) | (simp; omega)) _) | (with_reducible refine Below.setCell ?_ (by first | omega | (simp; done) | (simp; omega)) _))), (by repeat (first | (with_reducible exact ra) | (with_reducible exact row_new' (by first | omega | (simp; done) | (simp; omega))) | (with_reducible refine Row.drew ?_) | (with_reducible refine Row.drewN ?_ _) | (with_reducible refine Row.alloc ?_ _) | (with_reducible apply Row.set4) | (with_reducible apply Row.set4a) | (with_reducible apply Row.set4b) | (with_reducible apply Row.set2) | (with_reducible apply Row.set1) | (with_reducible refine Row.set_other ?_ _ (by first | omega | (simp; done) | (simp; omega))))), (by repeat (first | (with_reducible exact rb) | (with_reducible exact row_new' (by first | omega | (simp; done) | (simp; omega))) | (with_reducible refine Row.drew ?_) | (with_reducible refine Row.drewN ?_ _) | (with_reducible refine Row.alloc ?_ _) | (with_reducible apply Row.set4) | (with_reducible apply Row.set4a) | (with_reducible apply Row.set4b) | (with_reducible apply Row.set2) | (with_reducible apply Row.set1) | (with_reducible refine Row.set_other ?_ _ (by first | omega | (simp; done) | (simp; omega))))), (by repeat (first | (with_reducible exact rc) | (with_reducible exact row_new' (by first | omega | (simp; done) | (simp; omega))) | (with_reducible refine Row.drew ?_) | (with_reducible refine Row.drewN ?_ _) | (with_reducible refine Row.alloc ?_ _) | (with_reducible apply Row.set4) | (with_reducible apply Row.set4a) | (with_reducible apply Row.set4b) | (with_reducible apply Row.set2) | (with_reducible apply Row.set1) | (with_reducible refine Row.set_other ?_ _ (by first | omega | (simp; done) | (simp; omega))))), (by repeat (first | (with_reducible exact rd) | (with_reducible exact row_new' (by first | omega | (simp; done) | (simp; omega))) | (with_reducible refine Row.drew ?_) | (with_reducible refine Row.drewN ?_ _) | (with_reducible refine Row.alloc ?_ _) | (with_reducible apply Row.set4) | (with_reducible apply Row.set4a) | (with_reducible apply Row.set4b) | (with_reducible apply Row.set2) | (with_reducible apply Row.set1) | (with_reducible refine Row.set_other ?_ _ (by first | omega | (simp; done) | (simp; omega))))), (by repeat (first | (with_reducible exact rg) | (with_reducible exact row_new' (by first | omega | (simp; done) | (simp; omega))) | (with_reducible refine Row.drew ?_) | (with_reducible refine Row.drewN ?_ _) | (with_reducible refine Row.alloc ?_ _) | (with_reducible apply Row.set4) | (with_reducible apply Row.set4a) | (with_reducible apply Row.set4b) | (with_reducible apply Row.set2) | (with_reducible apply Row.set1) | (with_reducible refine Row.set_other ?_ _ (by first | omega | (simp; done) | (simp; omega))))), (by repeat (first | (with_reducible exact rh) | (with_reducible exact row_new' (by first | omega | (simp; done) | (simp; omega))) | (with_reducible refine Row.drew ?_) | (with_reducible refine Row.drewN ?_ _) | (with_reducible refine Row.alloc ?_ _) | (with_reducible apply Row.set4) | (with_reducible apply Row.set4a) | (with_reducible apply Row.set4b) | (with_reducible apply Row.set2) | (with_reducible apply Row.set1) | (with_reducible refine Row.set_other ?_ _ (by first | omega | (simp; done) | (simp; omega))))), (by repeat (first | (with_reducible exact ru) | (with_reducible exact row_new' (by first | omega | (simp; done) | (simp; omega))) | (with_reducible refine Row.drew ?_) | (with_reducible refine Row.drewN ?_ _) | (with_reducible refine Row.alloc ?_ _) | (with_reducible apply Row.set4) | (with_reducible apply Row.set4a) | (with_reducible apply Row.set4b) | (with_reducible apply Row.set2) | (with_reducible apply Row.set1) | (with_reducible refine Row.set_other ?_ _ (by first | omega | (simp; done) | (simp; omega))))), (by repeat (first | (with_reducible exact rv) | (with_reducible exact row_new' (by first | omega | (simp; done) | (simp; omega))) | (with_reducible refine Row.drew ?_) | (with_reducible refine Row.drewN ?_ _) | (with_reducible refine Row.alloc ?_ _) | (with_reducible apply Row.set4) | (with_reducible apply Row.set4a) | (with_reducible apply Row.set4b) | (with_reducible apply Row.set2) | (with_reducible apply Row.set1) | (with_reducible refine Row.set_other ?_ _ (by first | omega | (simp; done) | (simp; omega)))))⟩
        case measure => simp [intOf]; omega
      · rw [E2] at u0 u1 u2 u3 v0
        rw [E1] at g0 g1 g2 g3 h0
        have hi5 : (i : Int) = 5 := by omega
        obtain ⟨sa, ca0, ca1, ca2, ca3⟩ := Fa _ ra
        obtain ⟨sb, cb0, cb1, cb2, cb3⟩ := Fb _ rb
        obtain ⟨sc, cc0, cc1, cc2, cc3, fc0, fc1, fc2, fc3⟩ := Fc _ rc
        obtain ⟨sd, cd0, cd1, cd2, cd3, fd0, fd1, fd2, fd3⟩ := Fd _ rd
        have sg := Fg _ rg
        clear Fh
        have Fh : ∀ X, Row X h (.cells hs 31) → (h < X.heap.size ∧ X.cell? ⟨h, i, none⟩ = some (.int .i64 50)) := fun X h => ⟨h.1, Row.cell_take h xh h0⟩
        obtain ⟨sh, ch0⟩ := Fh _ rh
        have su := Fu _ ru
        clear Fv
        have Fv : ∀ X, Row X v (.cells vs 31) → (v < X.heap.size ∧ X.cell? ⟨v, i, none⟩ = some (.int .i64 0)) := fun X h => ⟨h.1, Row.cell_take h xv v0⟩
        obtain ⟨sv, cv0⟩ := Fv _ rv
        have hlt8 : (i : Int) < 8 := by omega
        clear KEY hf hf2
        go_wp2_with fail
        refine wp_region_vals [.slice (some ⟨v, 0, none⟩) 8 vc, .int .i64 (i : Int), .pointer (some ⟨v, i, none⟩), .int .i64 0, .bool true, .bool true, .slice (some ⟨h, 0, none⟩) 8 hc, .int .i64 (i : Int), .pointer (some ⟨h, i, none⟩), .int .i64 50, .bool false, .bool false, .bool false, undef, undef, undef, undef, undef, undef, undef, undef, undef, undef, .bool false, .bool false, .slice (some ⟨v, 0, none⟩) 8 vc, .int .i64 (i : Int), .pointer (some ⟨v, i, none⟩), .int .i64 0, .bool true, .bool true, .slice (some ⟨h, 0, none⟩) 8 hc, .int .i64 (i : Int), .pointer (some ⟨h, i, none⟩), .int .i64 50, .bool true, .bool true, .bool true, .int .i64 (i : Int), .bool false, .bool false, .bool false] (by kernel_rfl) (by kernel_rfl) rfl (allVals.cons ?_ (allVals.cons ?_ (allVals.cons ?_ (allVals.cons ?_ (allVals.cons ?_ (allVals.cons ?_ (allVals.cons ?_ (allVals.cons ?_ (allVals.cons ?_ (allVals.cons ?_ (allVals.cons ?_ (allVals.cons ?_ (allVals.cons ?_ (allVals.cons ?_ (allVals.cons ?_ (allVals.cons ?_ (allVals.cons ?_ (allVals.cons ?_ (allVals.cons ?_ (allVals.cons ?_ (allVals.cons ?_ (allVals.cons ?_ (allVals.cons ?_ (allVals.cons ?_ (allVals.cons ?_ (allVals.cons ?_ (allVals.cons ?_ (allVals.cons ?_ (allVals.cons ?_ (allVals.cons ?_ (allVals.cons ?_ (allVals.cons ?_ (allVals.cons ?_ (allVals.cons ?_ (allVals.cons ?_ (allVals.cons ?_ (allVals.cons ?_ (allVals.cons ?_ (allVals.cons ?_ (allVals.cons ?_ (allVals.cons ?_ (allVals.cons ?_ (trivial))))))))))))))))))))))))))))))))))))))))))) ?_
        · intro ρ X qX qc qg qf qt qd
          simp [depsAre] at qd
          have t17 : ρ (.tmp 17) = .slice (some ⟨v, 0, none⟩) 8 vc := qt 17 rfl
          first | (simp [Region.wanted, yieldedBy, quietly, execOp, go_sem, qc, qd, Below.refl, t17, hlt8]; done) | (simp [Region.wanted, yieldedBy, quietly, execOp, go_sem, qc, qd, Below.refl, t17, hlt8, hi5]; done)
        · intro ρ X qX qc qg qf qt qd
          simp [depsAre] at qd
          have t18 : ρ (.tmp 18) = .int .i64 (i : Int) := qt 18 rfl
          first | (simp [Region.wanted, yieldedBy, quietly, execOp, go_sem, qc, qd, Below.refl, t18, hlt8]; done) | (simp [Region.wanted, yieldedBy, quietly, execOp, go_sem, qc, qd, Below.refl, t18, hlt8, hi5]; done)
        · intro ρ X qX qc qg qf qt qd
          simp [depsAre] at qd
          first | (simp [Region.wanted, yieldedBy, quietly, execOp, go_sem, qc, qd, Below.refl, hlt8]; done) | (simp [Region.wanted, yieldedBy, quietly, execOp, go_sem, qc, qd, Below.refl, hlt8, hi5]; done)
        · intro ρ X qX qc qg qf qt qd
          simp [depsAre] at qd
          obtain ⟨y0, y1⟩ := Fv _ (Row.below rv qX)
          first | (simp [Region.wanted, yieldedBy, quietly, execOp, go_sem, qc, qd, Below.refl, y0, y1, hlt8]; done) | (simp [Region.wanted, yieldedBy, quietly, execOp, go_sem, qc, qd, Below.refl, y0, y1, hlt8, hi5]; done)
        · intro ρ X qX qc qg qf qt qd
          simp [depsAre] at qd
          first | (simp [Region.wanted, yieldedBy, quietly, execOp, go_sem, qc, qd, Below.refl, hlt8]; done) | (simp [Region.wanted, yieldedBy, quietly, execOp, go_sem, qc, qd, Below.refl, hlt8, hi5]; done)
        · intro ρ X qX qc qg qf qt qd
          simp [depsAre] at qd
          first | (simp [Region.wanted, yieldedBy, quietly, execOp, go_sem, qc, qd, Below.refl, hlt8]; done) | (simp [Region.wanted, yieldedBy, quietly, execOp, go_sem, qc, qd, Below.refl, hlt8, hi5]; done)
        · intro ρ X qX qc qg qf qt qd
          simp [depsAre] at qd
          have t15 : ρ (.tmp 15) = .slice (some ⟨h, 0, none⟩) 8 hc := qt 15 rfl
          first | (simp [Region.wanted, yieldedBy, quietly, execOp, go_sem, qc, qd, Below.refl, t15, hlt8]; done) | (simp [Region.wanted, yieldedBy, quietly, execOp, go_sem, qc, qd, Below.refl, t15, hlt8, hi5]; done)
        · intro ρ X qX qc qg qf qt qd
          simp [depsAre] at qd
          have t18 : ρ (.tmp 18) = .int .i64 (i : Int) := qt 18 rfl
          first | (simp [Region.wanted, yieldedBy, quietly, execOp, go_sem, qc, qd, Below.refl, t18, hlt8]; done) | (simp [Region.wanted, yieldedBy, quietly, execOp, go_sem, qc, qd, Below.refl, t18, hlt8, hi5]; done)
        · intro ρ X qX qc qg qf qt qd
          simp [depsAre] at qd
          first | (simp [Region.wanted, yieldedBy, quietly, execOp, go_sem, qc, qd, Below.refl, hlt8]; done) | (simp [Region.wanted, yieldedBy, quietly, execOp, go_sem, qc, qd, Below.refl, hlt8, hi5]; done)
        · intro ρ X qX qc qg qf qt qd
          simp [depsAre] at qd
          obtain ⟨y0, y1⟩ := Fh _ (Row.below rh qX)
          first | (simp [Region.wanted, yieldedBy, quietly, execOp, go_sem, qc, qd, Below.refl, y0, y1, hlt8]; done) | (simp [Region.wanted, yieldedBy, quietly, execOp, go_sem, qc, qd, Below.refl, y0, y1, hlt8, hi5]; done)
        · intro ρ X qX qc qg qf qt qd
          simp [depsAre] at qd
          first | (simp [Region.wanted, yieldedBy, quietly, execOp, go_sem, qc, qd, Below.refl, hlt8]; done) | (simp [Region.wanted, yieldedBy, quietly, execOp, go_sem, qc, qd, Below.refl, hlt8, hi5]; done)
        · intro ρ X qX qc qg qf qt qd
          simp [depsAre] at qd
          first | (simp [Region.wanted, yieldedBy, quietly, execOp, go_sem, qc, qd, Below.refl, hlt8]; done) | (simp [Region.wanted, yieldedBy, quietly, execOp, go_sem, qc, qd, Below.refl, hlt8, hi5]; done)
        · intro ρ X qX qc qg qf qt qd
          simp [depsAre] at qd
          first | (simp [Region.wanted, yieldedBy, quietly, execOp, go_sem, qc, qd, Below.refl, hlt8]; done) | (simp [Region.wanted, yieldedBy, quietly, execOp, go_sem, qc, qd, Below.refl, hlt8, hi5]; done)
        · intro ρ X qX qc qg qf qt qd
          simp [depsAre] at qd
          have t14 : ρ (.tmp 14) = .slice (some ⟨g, 0, none⟩) 8 gc := qt 14 rfl
          first | (simp [Region.wanted, yieldedBy, quietly, execOp, go_sem, qc, qd, Below.refl, t14, hlt8]; done) | (simp [Region.wanted, yieldedBy, quietly, execOp, go_sem, qc, qd, Below.refl, t14, hlt8, hi5]; done)
        · intro ρ X qX qc qg qf qt qd
          simp [depsAre] at qd
          have t18 : ρ (.tmp 18) = .int .i64 (i : Int) := qt 18 rfl
          first | (simp [Region.wanted, yieldedBy, quietly, execOp, go_sem, qc, qd, Below.refl, t18, hlt8]; done) | (simp [Region.wanted, yieldedBy, quietly, execOp, go_sem, qc, qd, Below.refl, t18, hlt8, hi5]; done)
        · intro ρ X qX qc qg qf qt qd
          simp [depsAre] at qd
          first | (simp [Region.wanted, yieldedBy, quietly, execOp, go_sem, qc, qd, Below.refl, hlt8]; done) | (simp [Region.wanted, yieldedBy, quietly, execOp, go_sem, qc, qd, Below.refl, hlt8, hi5]; done)
        · intro ρ X qX qc qg qf qt qd
          simp [depsAre] at qd
          first | (simp [Region.wanted, yieldedBy, quietly, execOp, go_sem, qc, qd, Below.refl, hlt8]; done) | (simp [Region.wanted, yieldedBy, quietly, execOp, go_sem, qc, qd, Below.refl, hlt8, hi5]; done)
        · intro ρ X qX qc qg qf qt qd
          simp [depsAre] at qd
          have t16 : ρ (.tmp 16) = .slice (some ⟨u, 0, none⟩) 8 uc := qt 16 rfl
          first | (simp [Region.wanted, yieldedBy, quietly, execOp, go_sem, qc, qd, Below.refl, t16, hlt8]; done) | (simp [Region.wanted, yieldedBy, quietly, execOp, go_sem, qc, qd, Below.refl, t16, hlt8, hi5]; done)
        · intro ρ X qX qc qg qf qt qd
          simp [depsAre] at qd
          have t18 : ρ (.tmp 18) = .int .i64 (i : Int) := qt 18 rfl
          first | (simp [Region.wanted, yieldedBy, quietly, execOp, go_sem, qc, qd, Below.refl, t18, hlt8]; done) | (simp [Region.wanted, yieldedBy, quietly, execOp, go_sem, qc, qd, Below.refl, t18, hlt8, hi5]; done)
        · intro ρ X qX qc qg qf qt qd
          simp [depsAre] at qd
          first | (simp [Region.wanted, yieldedBy, quietly, execOp, go_sem, qc, qd, Below.refl, hlt8]; done) | (simp [Region.wanted, yieldedBy, quietly, execOp, go_sem, qc, qd, Below.refl, hlt8, hi5]; done)
        · intro ρ X qX qc qg qf qt qd
          simp [depsAre] at qd
          first | (simp [Region.wanted, yieldedBy, quietly, execOp, go_sem, qc, qd, Below.refl, hlt8]; done) | (simp [Region.wanted, yieldedBy, quietly, execOp, go_sem, qc, qd, Below.refl, hlt8, hi5]; done)
        · intro ρ X qX qc qg qf qt qd
          simp [depsAre] at qd
          first | (simp [Region.wanted, yieldedBy, quietly, execOp, go_sem, qc, qd, Below.refl, hlt8]; done) | (simp [Region.wanted, yieldedBy, quietly, execOp, go_sem, qc, qd, Below.refl, hlt8, hi5]; done)
        · intro ρ X qX qc qg qf qt qd
          simp [depsAre] at qd
          first | (simp [Region.wanted, yieldedBy, quietly, execOp, go_sem, qc, qd, Below.refl, hlt8]; done) | (simp [Region.wanted, yieldedBy, quietly, execOp, go_sem, qc, qd, Below.refl, hlt8, hi5]; done)
        · intro ρ X qX qc qg qf qt qd
          simp [depsAre] at qd
          first | (simp [Region.wanted, yieldedBy, quietly, execOp, go_sem, qc, qd, Below.refl, hlt8]; done) | (simp [Region.wanted, yieldedBy, quietly, execOp, go_sem, qc, qd, Below.refl, hlt8, hi5]; done)
        · intro ρ X qX qc qg qf qt qd
          simp [depsAre] at qd
          first | (simp [Region.wanted, yieldedBy, quietly, execOp, go_sem, qc, qd, Below.refl, hlt8]; done) | (simp [Region.wanted, yieldedBy, quietly, execOp, go_sem, qc, qd, Below.refl, hlt8, hi5]; done)
        · intro ρ X qX qc qg qf qt qd
          simp [depsAre] at qd
          have t17 : ρ (.tmp 17) = .slice (some ⟨v, 0, none⟩) 8 vc := qt 17 rfl
          first | (simp [Region.wanted, yieldedBy, quietly, execOp, go_sem, qc, qd, Below.refl, t17, hlt8]; done) | (simp [Region.wanted, yieldedBy, quietly, execOp, go_sem, qc, qd, Below.refl, t17, hlt8, hi5]; done)
        · intro ρ X qX qc qg qf qt qd
          simp [depsAre] at qd
          have t18 : ρ (.tmp 18) = .int .i64 (i : Int) := qt 18 rfl
          first | (simp [Region.wanted, yieldedBy, quietly, execOp, go_sem, qc, qd, Below.refl, t18, hlt8]; done) | (simp [Region.wanted, yieldedBy, quietly, execOp, go_sem, qc, qd, Below.refl, t18, hlt8, hi5]; done)
        · intro ρ X qX qc qg qf qt qd
          simp [depsAre] at qd
          first | (simp [Region.wanted, yieldedBy, quietly, execOp, go_sem, qc, qd, Below.refl, hlt8]; done) | (simp [Region.wanted, yieldedBy, quietly, execOp, go_sem, qc, qd, Below.refl, hlt8, hi5]; done)
        · intro ρ X qX qc qg qf qt qd
          simp [depsAre] at qd
          obtain ⟨y0, y1⟩ := Fv _ (Row.below rv qX)
          first | (simp [Region.wanted, yieldedBy, quietly, execOp, go_sem, qc, qd, Below.refl, y0, y1, hlt8]; done) | (simp [Region.wanted, yieldedBy, quietly, execOp, go_sem, qc, qd, Below.refl, y0, y1, hlt8, hi5]; done)
        · intro ρ X qX qc qg qf qt qd
          simp [depsAre] at qd
          first | (simp [Region.wanted, yieldedBy, quietly, execOp, go_sem, qc, qd, Below.refl, hlt8]; done) | (simp [Region.wanted, yieldedBy, quietly, execOp, go_sem, qc, qd, Below.refl, hlt8, hi5]; done)
        · intro ρ X qX qc qg qf qt qd
          simp [depsAre] at qd
          first | (simp [Region.wanted, yieldedBy, quietly, execOp, go_sem, qc, qd, Below.refl, hlt8]; done) | (simp [Region.wanted, yieldedBy, quietly, execOp, go_sem, qc, qd, Below.refl, hlt8, hi5]; done)
        · intro ρ X qX qc qg qf qt qd
          simp [depsAre] at qd
          have t15 : ρ (.tmp 15) = .slice (some ⟨h, 0, none⟩) 8 hc := qt 15 rfl
          first | (simp [Region.wanted, yieldedBy, quietly, execOp, go_sem, qc, qd, Below.refl, t15, hlt8]; done) | (simp [Region.wanted, yieldedBy, quietly, execOp, go_sem, qc, qd, Below.refl, t15, hlt8, hi5]; done)
        · intro ρ X qX qc qg qf qt qd
          simp [depsAre] at qd
          have t18 : ρ (.tmp 18) = .int .i64 (i : Int) := qt 18 rfl
          first | (simp [Region.wanted, yieldedBy, quietly, execOp, go_sem, qc, qd, Below.refl, t18, hlt8]; done) | (simp [Region.wanted, yieldedBy, quietly, execOp, go_sem, qc, qd, Below.refl, t18, hlt8, hi5]; done)
        · intro ρ X qX qc qg qf qt qd
          simp [depsAre] at qd
          first | (simp [Region.wanted, yieldedBy, quietly, execOp, go_sem, qc, qd, Below.refl, hlt8]; done) | (simp [Region.wanted, yieldedBy, quietly, execOp, go_sem, qc, qd, Below.refl, hlt8, hi5]; done)
        · intro ρ X qX qc qg qf qt qd
          simp [depsAre] at qd
          obtain ⟨y0, y1⟩ := Fh _ (Row.below rh qX)
          first | (simp [Region.wanted, yieldedBy, quietly, execOp, go_sem, qc, qd, Below.refl, y0, y1, hlt8]; done) | (simp [Region.wanted, yieldedBy, quietly, execOp, go_sem, qc, qd, Below.refl, y0, y1, hlt8, hi5]; done)
        · intro ρ X qX qc qg qf qt qd
          simp [depsAre] at qd
          first | (simp [Region.wanted, yieldedBy, quietly, execOp, go_sem, qc, qd, Below.refl, hlt8]; done) | (simp [Region.wanted, yieldedBy, quietly, execOp, go_sem, qc, qd, Below.refl, hlt8, hi5]; done)
        · intro ρ X qX qc qg qf qt qd
          simp [depsAre] at qd
          first | (simp [Region.wanted, yieldedBy, quietly, execOp, go_sem, qc, qd, Below.refl, hlt8]; done) | (simp [Region.wanted, yieldedBy, quietly, execOp, go_sem, qc, qd, Below.refl, hlt8, hi5]; done)
        · intro ρ X qX qc qg qf qt qd
          simp [depsAre] at qd
          first | (simp [Region.wanted, yieldedBy, quietly, execOp, go_sem, qc, qd, Below.refl, hlt8]; done) | (simp [Region.wanted, yieldedBy, quietly, execOp, go_sem, qc, qd, Below.refl, hlt8, hi5]; done)
        · intro ρ X qX qc qg qf qt qd
          simp [depsAre] at qd
          have t18 : ρ (.tmp 18) = .int .i64 (i : Int) := qt 18 rfl
          first | (simp [Region.wanted, yieldedBy, quietly, execOp, go_sem, qc, qd, Below.refl, t18, hlt8]; done) | (simp [Region.wanted, yieldedBy, quietly, execOp, go_sem, qc, qd, Below.refl, t18, hlt8, hi5]; done)
        · intro ρ X qX qc qg qf qt qd
          simp [depsAre] at qd
          first | (simp [Region.wanted, yieldedBy, quietly, execOp, go_sem, qc, qd, Below.refl, hlt8]; done) | (simp [Region.wanted, yieldedBy, quietly, execOp, go_sem, qc, qd, Below.refl, hlt8, hi5]; done)
        · intro ρ X qX qc qg qf qt qd
          simp [depsAre] at qd
          first | (simp [Region.wanted, yieldedBy, quietly, execOp, go_sem, qc, qd, Below.refl, hlt8]; done) | (simp [Region.wanted, yieldedBy, quietly, execOp, go_sem, qc, qd, Below.refl, hlt8, hi5]; done)
        · intro ρ X qX qc qg qf qt qd
          simp [depsAre] at qd
          first | (simp [Region.wanted, yieldedBy, quietly, execOp, go_sem, qc, qd, Below.refl, hlt8]; done) | (simp [Region.wanted, yieldedBy, quietly, execOp, go_sem, qc, qd, Below.refl, hlt8, hi5]; done)
        rintro W h1
        clear sa ca0 ca1 ca2 ca3
        clear sb cb0 cb1 cb2 cb3
        clear sc cc0 cc1 cc2 cc3 fc0 fc1 fc2 fc3
        clear sd cd0 cd1 cd2 cd3 fd0 fd1 fd2 fd3
        clear sg
        clear sh ch0
        clear su
        clear sv cv0
        replace hB := hB.trans (h1.mono hB.size)
        replace ra := Row.below ra h1
        replace rb := Row.below rb h1
        replace rc := Row.below rc h1
        replace rd := Row.below rd h1
        replace rg := Row.below rg h1
        replace rh := Row.below rh h1
        replace ru := Row.below ru h1
        replace rv := Row.below rv h1
        clear h1
        obtain ⟨sa, ca0, ca1, ca2, ca3⟩ := Fa _ ra
        obtain ⟨sb, cb0, cb1, cb2, cb3⟩ := Fb _ rb
        obtain ⟨sc, cc0, cc1, cc2, cc3, fc0, fc1, fc2, fc3⟩ := Fc _ rc
        obtain ⟨sd, cd0, cd1, cd2, cd3, fd0, fd1, fd2, fd3⟩ := Fd _ rd
        have sg := Fg _ rg
        obtain ⟨sh, ch0⟩ := Fh _ rh
        have su := Fu _ ru
        obtain ⟨sv, cv0⟩ := Fv _ rv
        simp only [setVals, List.setIfInBounds_toArray, List.set_cons_succ, List.set_cons_zero]
        go_wp2
        go_roundw
        case rel => exact ⟨i + 1, by go_num, by omega, (by repeat (first | (with_reducible exact hB) | (with_reducible exact Below.refl _ _) | (with_reducible refine Below.drew ?_) | (with_reducible refine below_drewN ?_ _) | (with_reducible refine Below.alloc ?_ (by first | omega | (simp; done) | (simp; omega)) _) | (with_reducible refine Below.setCell ?_ (by first | omega | (simp; done) | (simp; omega)) _))), (by repeat (first | (with_reducible exact ra) | (with_reducible exact row_new' (by first | omega | (simp; done) | (simp; omega))) | (with_reducible refine Row.drew ?_) | (with_reducible refine Row.drewN ?_ _) | (with_reducible refine Row.alloc ?_ _) | (with_reducible apply Row.set4) | (with_reducible apply Row.set4a) | (with_reducible apply Row.set4b) | (with_reducible apply Row.set2) | (with_reducible apply Row.set1) | (with_reducible refine Row.set_other ?_ _ (by first | omega | (simp; done) | (simp; omega))))), (by repeat (first | (with_reducible exact rb) | (with_reducible exact row_new' (by first | omega | (simp; done) | (simp; omega))) | (with_reducible refine Row.drew ?_) | (with_reducible refine Row.drewN ?_ _) | (with_reducible refine Row.alloc ?_ _) | (with_reducible apply Row.set4) | (with_reducible apply Row.set4a) | (with_reducible apply Row.set4b) | (with_reducible apply Row.set2) | (with_reducible apply Row.set1) | (with_reducible refine Row.set_other ?_ _ (by first | omega | (simp; done) | (simp; omega))))), (by repeat (first | (with_reducible exact rc) | (with_reducible exact row_new' (by first | omega | (simp; done) | (simp; omega))) | (with_reducible refine Row.drew ?_) | (with_reducible refine Row.drewN ?_ _) | (with_reducible refine Row.alloc ?_ _) | (with_reducible apply Row.set4) | (with_reducible apply Row.set4a) | (with_reducible apply Row.set4b) | (with_reducible apply Row.set2) | (with_reducible apply Row.set1) | (with_reducible refine Row.set_other ?_ _ (by first | omega | (simp; done) | (simp; omega))))), (by repeat (first | (with_reducible exact rd) | (with_reducible exact row_new' (by first | omega | (simp; done) | (simp; omega))) | (with_reducible refine Row.drew ?_) | (with_reducible refine Row.drewN ?_ _) | (with_reducible refine Row.alloc ?_ _) | (with_reducible apply Row.set4) | (with_reducible apply Row.set4a) | (with_reducible apply Row.set4b) | (with_reducible apply Row.set2) | (with_reducible apply Row.set1) | (with_reducible refine Row.set_other ?_ _ (by first | omega | (simp; done) | (simp; omega))))), (by repeat (first | (with_reducible exact rg) | (with_reducible exact row_new' (by first | omega | (simp; done) | (simp; omega))) | (with_reducible refine Row.drew ?_) | (with_reducible refine Row.drewN ?_ _) | (with_reducible refine Row.alloc ?_ _) | (with_reducible apply Row.set4) | (with_reducible apply Row.set4a) | (with_reducible apply Row.set4b) | (with_reducible apply Row.set2) | (with_reducible apply Row.set1) | (with_reducible refine Row.set_other ?_ _ (by first | omega | (simp; done) | (simp; omega))))), (by repeat (first | (with_reducible exact rh) | (with_reducible exact row_new' (by first | omega | (simp; done) | (simp; omega))) | (with_reducible refine Row.drew ?_) | (with_reducible refine Row.drewN ?_ _) | (with_reducible refine Row.alloc ?_ _) | (with_reducible apply Row.set4) | (with_reducible apply Row.set4a) | (with_reducible apply Row.set4b) | (with_reducible apply Row.set2) | (with_reducible apply Row.set1) | (with_reducible refine Row.set_other ?_ _ (by first | omega | (simp; done) | (simp; omega))))), (by repeat (first | (with_reducible exact ru) | (with_reducible exact row_new' (by first | omega | (simp; done) | (simp; omega))) | (with_reducible refine Row.drew ?_) | (with_reducible refine Row.drewN ?_ _) | (with_reducible refine Row.alloc ?_ _) | (with_reducible apply Row.set4) | (with_reducible apply Row.set4a) | (with_reducible apply Row.set4b) | (with_reducible apply Row.set2) | (with_reducible apply Row.set1) | (with_reducible refine Row.set_other ?_ _ (by first | omega | (simp; done) | (simp; omega))))), (by repeat (first | (with_reducible exact rv) | (with_reducible exact row_new' (by first | omega | (simp; done) | (simp; omega))) | (with_reducible refine Row.drew ?_) | (with_reducible refine Row.drewN ?_ _) | (with_reducible refine Row.alloc ?_ _) | (with_reducible apply Row.set4) | (with_reducible apply Row.set4a) | (with_reducible apply Row.set4b) | (with_reducible apply Row.set2) | (with_reducible apply Row.set1) | (with_reducible refine Row.set_other ?_ _ (by first | omega | (simp; done) | (simp; omega)))))⟩
        case measure => simp [intOf]; omega
    · obtain rfl : i = 8 := by omega
      obtain ⟨sa, ca0, ca1, ca2, ca3⟩ := Fa _ ra
      obtain ⟨sb, cb0, cb1, cb2, cb3⟩ := Fb _ rb
      obtain ⟨sc, cc0, cc1, cc2, cc3, fc0, fc1, fc2, fc3⟩ := Fc _ rc
      obtain ⟨sd, cd0, cd1, cd2, cd3, fd0, fd1, fd2, fd3⟩ := Fd _ rd
      have sg := Fg _ rg
      have sh := Fh _ rh
      have su := Fu _ ru
      have sv := Fv _ rv
      go_wp2_with fail
      clear ra
      clear sa ca0 ca1 ca2 ca3
      clear Fa
      clear rc
      clear sc cc0 cc1 cc2 cc3 fc0 fc1 fc2 fc3
      clear Fc
      clear rg
      clear sg
      clear Fg
      clear rh
      clear sh
      clear Fh
      clear ru
      clear su
      clear Fu
      clear rv
      clear sv
      clear Fv
      refine (WA _ (he.env.below hB)).mono ?_
      rintro e W15 ⟨rfl, h1⟩
      clear sb cb0 cb1 cb2 cb3
      clear sd cd0 cd1 cd2 cd3 fd0 fd1 fd2 fd3
      replace hB := hB.trans (h1.mono hB.size)
      replace rb := Row.below rb h1
      replace rd := Row.below rd h1
      clear h1
      obtain ⟨sb, cb0, cb1, cb2, cb3⟩ := Fb _ rb
      obtain ⟨sd, cd0, cd1, cd2, cd3, fd0, fd1, fd2, fd3⟩ := Fd _ rd
      go_wp2_with fail
      clear rb
      clear sb cb0 cb1 cb2 cb3
      clear Fb
      clear rd
      clear sd cd0 cd1 cd2 cd3 fd0 fd1 fd2 fd3
      clear Fd
      refine (WB _ (he.env.below hB)).mono ?_
      rintro e W16 ⟨rfl, h1⟩
      replace hB := hB.trans (h1.mono hB.size)
      clear h1
      go_wp2
      go_ret
      exact ⟨rfl, hB⟩
end Go.Proofs.YtbgagplpomfkkaaGreatDoor
