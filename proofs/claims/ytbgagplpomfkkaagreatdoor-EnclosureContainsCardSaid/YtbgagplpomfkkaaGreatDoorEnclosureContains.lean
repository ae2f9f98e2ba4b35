/-
  EnclosureContains: the walk.
-/
import Derived.Test.YtbgagplpomfkkaaGreatDoorSane5
import Derived.Test.YtbgagplpomfkkaaGreatDoorECalls
import Derived.Test.YtbgagplpomfkkaaGreatDoorECallsFacts
import Derived.Deep.RegionHeld3
set_option linter.unusedSimpArgs false
set_option linter.unusedVariables false
namespace Go.Proofs.YtbgagplpomfkkaaGreatDoor
open Go Go.RowKit Go.Lib Go.Shelf

set_option maxRecDepth 100000 in
set_option maxHeartbeats 16000000 in
theorem enclosureContains_any {a0 : Addr} (x0 x1 x2 x3 y0 y1 y2 y3 one two : Int) (hx : IsInt x0 ∧ IsInt x1 ∧ IsInt x2 ∧ IsInt x3) (hy : IsInt y0 ∧ IsInt y1 ∧ IsInt y2 ∧ IsInt y3) (h1one : IsInt one) (h2two : IsInt two) (w : World) (he : EnvE a0 w) :
    Calls Tryz.prog 6 #[.agg #[.int .i64 x0, .int .i64 x1, .int .i64 x2, .int .i64 x3], .agg #[.int .i64 y0, .int .i64 y1, .int .i64 y2, .int .i64 y3], .int .i64 one, .int .i64 two] w (BoolOk true w) := by
  have hB : Below w.heap.size w w := Below.refl _ _
  have MS := fun W (h : EnvE a0 W) => sane5 W h
  have MX := fun W => rmade x0 x1 x2 x3 hx.1 hx.2.1 hx.2.2.1 hx.2.2.2 W
  have MY := fun W => rmade y0 y1 y2 y3 hy.1 hy.2.1 hy.2.2.1 hy.2.2.2 W
  unfold BoolOk at MS
  clear hx hy
  go_enter Tryz.func6, Tryz.ntmps6
  go_wp2_with fail
  have sB := hB.size
  refine world_cut (fun X => Below w.heap.size w X ∧ Row X w.heap.size (.cells #[.int .i64 x0, .int .i64 x1, .int .i64 x2, .int .i64 x3] 22) ∧ Row X (w.heap.size + 1) (.cells #[.int .i64 y0, .int .i64 y1, .int .i64 y2, .int .i64 y3] 22)) ⟨(by repeat (first | (with_reducible exact hB) | (with_reducible exact Below.refl _ _) | (with_reducible refine Below.drew ?_) | (with_reducible refine below_drewN ?_ _) | (with_reducible refine Below.alloc ?_ (by first | omega | (simp; done) | (simp; omega)) _) | (with_reducible refine Below.setCell ?_ (by first | omega | (simp; done) | (simp; omega)) _))), (by repeat (first | (with_reducible exact row_new' (by first | omega | (simp; done) | (simp; omega))) | (with_reducible refine Row.drew ?_) | (with_reducible refine Row.drewN ?_ _) | (with_reducible refine Row.alloc ?_ _) | (with_reducible apply Row.set4) | (with_reducible apply Row.set4a) | (with_reducible apply Row.set4b) | (with_reducible apply Row.set2) | (with_reducible apply Row.set1) | (with_reducible refine Row.set_other ?_ _ (by first | omega | (simp; done) | (simp; omega))))), (by repeat (first | (with_reducible exact row_new' (by first | omega | (simp; done) | (simp; omega))) | (with_reducible refine Row.drew ?_) | (with_reducible refine Row.drewN ?_ _) | (with_reducible refine Row.alloc ?_ _) | (with_reducible apply Row.set4) | (with_reducible apply Row.set4a) | (with_reducible apply Row.set4b) | (with_reducible apply Row.set2) | (with_reducible apply Row.set1) | (with_reducible refine Row.set_other ?_ _ (by first | omega | (simp; done) | (simp; omega)))))⟩ ?_
  clear hB sB
  rintro V1 ⟨hB, rx, ry⟩
  have sx := rx.1
  have cx0 : V1.cell? ⟨w.heap.size, 0, none⟩ = some (.int .i64 x0) := Row.cell_at rx 0 rfl
  have cx1 : V1.cell? ⟨w.heap.size, 1, none⟩ = some (.int .i64 x1) := Row.cell_at rx 1 rfl
  have cx2 : V1.cell? ⟨w.heap.size, 2, none⟩ = some (.int .i64 x2) := Row.cell_at rx 2 rfl
  have cx3 : V1.cell? ⟨w.heap.size, 3, none⟩ = some (.int .i64 x3) := Row.cell_at rx 3 rfl
  have sy := ry.1
  have cy0 : V1.cell? ⟨w.heap.size + 1, 0, none⟩ = some (.int .i64 y0) := Row.cell_at ry 0 rfl
  have cy1 : V1.cell? ⟨w.heap.size + 1, 1, none⟩ = some (.int .i64 y1) := Row.cell_at ry 1 rfl
  have cy2 : V1.cell? ⟨w.heap.size + 1, 2, none⟩ = some (.int .i64 y2) := Row.cell_at ry 2 rfl
  have cy3 : V1.cell? ⟨w.heap.size + 1, 3, none⟩ = some (.int .i64 y3) := Row.cell_at ry 3 rfl
  refine (MS _ (he.below hB)).mono ?_
  rintro e W2 ⟨rfl, h1⟩
  clear sx cx0 cx1 cx2 cx3
  clear sy cy0 cy1 cy2 cy3
  replace hB := hB.trans (h1.mono hB.size)
  replace rx := Row.below rx h1
  replace ry := Row.below ry h1
  clear h1
  have sx := rx.1
  have cx0 : W2.cell? ⟨w.heap.size, 0, none⟩ = some (.int .i64 x0) := Row.cell_at rx 0 rfl
  have cx1 : W2.cell? ⟨w.heap.size, 1, none⟩ = some (.int .i64 x1) := Row.cell_at rx 1 rfl
  have cx2 : W2.cell? ⟨w.heap.size, 2, none⟩ = some (.int .i64 x2) := Row.cell_at rx 2 rfl
  have cx3 : W2.cell? ⟨w.heap.size, 3, none⟩ = some (.int .i64 x3) := Row.cell_at rx 3 rfl
  have sy := ry.1
  have cy0 : W2.cell? ⟨w.heap.size + 1, 0, none⟩ = some (.int .i64 y0) := Row.cell_at ry 0 rfl
  have cy1 : W2.cell? ⟨w.heap.size + 1, 1, none⟩ = some (.int .i64 y1) := Row.cell_at ry 1 rfl
  have cy2 : W2.cell? ⟨w.heap.size + 1, 2, none⟩ = some (.int .i64 y2) := Row.cell_at ry 2 rfl
  have cy3 : W2.cell? ⟨w.heap.size + 1, 3, none⟩ = some (.int .i64 y3) := Row.cell_at ry 3 rfl
  go_wp2_with fail
  clear rx
  clear sx cx0 cx1 cx2 cx3
  refine (MX _).mono ?_
  rintro e W3 ⟨a, ⟨da, oa⟩, rfl, h1⟩
  clear sy cy0 cy1 cy2 cy3
  replace hB := hB.trans (h1.mono hB.size)
  replace ry := Row.below ry h1
  clear h1
  have sy := ry.1
  have cy0 : W3.cell? ⟨w.heap.size + 1, 0, none⟩ = some (.int .i64 y0) := Row.cell_at ry 0 rfl
  have cy1 : W3.cell? ⟨w.heap.size + 1, 1, none⟩ = some (.int .i64 y1) := Row.cell_at ry 1 rfl
  have cy2 : W3.cell? ⟨w.heap.size + 1, 2, none⟩ = some (.int .i64 y2) := Row.cell_at ry 2 rfl
  have cy3 : W3.cell? ⟨w.heap.size + 1, 3, none⟩ = some (.int .i64 y3) := Row.cell_at ry 3 rfl
  have MI := fun W => rinside a 3 da (by omega) oa one h1one W
  unfold I at MI ⊢
  go_wp2_with fail
  have sB := hB.size
  refine world_cut (fun X => Below w.heap.size w X ∧ Row X W3.heap.size (.cells #[.string (S a.lo.num), .string (S (a.lo.den : Int)), .string (S a.hi.num), .string (S (a.hi.den : Int))] 29)) ⟨(by repeat (first | (with_reducible exact hB) | (with_reducible exact Below.refl _ _) | (with_reducible refine Below.drew ?_) | (with_reducible refine below_drewN ?_ _) | (with_reducible refine Below.alloc ?_ (by first | omega | (simp; done) | (simp; omega)) _) | (with_reducible refine Below.setCell ?_ (by first | omega | (simp; done) | (simp; omega)) _))), (by repeat (first | (with_reducible exact row_new' (by first | omega | (simp; done) | (simp; omega))) | (with_reducible refine Row.drew ?_) | (with_reducible refine Row.drewN ?_ _) | (with_reducible refine Row.alloc ?_ _) | (with_reducible apply Row.set4) | (with_reducible apply Row.set4a) | (with_reducible apply Row.set4b) | (with_reducible apply Row.set2) | (with_reducible apply Row.set1) | (with_reducible refine Row.set_other ?_ _ (by first | omega | (simp; done) | (simp; omega)))))⟩ ?_
  clear ry
  clear sy cy0 cy1 cy2 cy3
  clear hB sB
  rintro V4 ⟨hB, ra⟩
  have sa := ra.1
  have ca0 : V4.cell? ⟨W3.heap.size, 0, none⟩ = some (.string (S a.lo.num)) := Row.cell_at ra 0 rfl
  have ca1 : V4.cell? ⟨W3.heap.size, 1, none⟩ = some (.string (S (a.lo.den : Int))) := Row.cell_at ra 1 rfl
  have ca2 : V4.cell? ⟨W3.heap.size, 2, none⟩ = some (.string (S a.hi.num)) := Row.cell_at ra 2 rfl
  have ca3 : V4.cell? ⟨W3.heap.size, 3, none⟩ = some (.string (S (a.hi.den : Int))) := Row.cell_at ra 3 rfl
  refine (MY _).mono ?_
  rintro e W5 ⟨b, ⟨db, ob⟩, rfl, h1⟩
  clear sa ca0 ca1 ca2 ca3
  replace hB := hB.trans (h1.mono hB.size)
  replace ra := Row.below ra h1
  clear h1
  have sa := ra.1
  have ca0 : W5.cell? ⟨W3.heap.size, 0, none⟩ = some (.string (S a.lo.num)) := Row.cell_at ra 0 rfl
  have ca1 : W5.cell? ⟨W3.heap.size, 1, none⟩ = some (.string (S (a.lo.den : Int))) := Row.cell_at ra 1 rfl
  have ca2 : W5.cell? ⟨W3.heap.size, 2, none⟩ = some (.string (S a.hi.num)) := Row.cell_at ra 2 rfl
  have ca3 : W5.cell? ⟨W3.heap.size, 3, none⟩ = some (.string (S (a.hi.den : Int))) := Row.cell_at ra 3 rfl
  have MJ := fun W => rinside b 3 db (by omega) ob two h2two W
  unfold I at MJ ⊢
  go_wp2_with fail
  have sB := hB.size
  refine world_cut (fun X => Below w.heap.size w X ∧ Row X W3.heap.size (.cells #[.string (S a.lo.num), .string (S (a.lo.den : Int)), .string (S a.hi.num), .string (S (a.hi.den : Int))] 29) ∧ Row X W5.heap.size (.cells #[.string (S b.lo.num), .string (S (b.lo.den : Int)), .string (S b.hi.num), .string (S (b.hi.den : Int))] 29)) ⟨(by repeat (first | (with_reducible exact hB) | (with_reducible exact Below.refl _ _) | (with_reducible refine Below.drew ?_) | (with_reducible refine below_drewN ?_ _) | (with_reducible refine Below.alloc ?_ (by first | omega | (simp; done) | (simp; omega)) _) | (with_reducible refine Below.setCell ?_ (by first | omega | (simp; done) | (simp; omega)) _))), (by repeat (first | (with_reducible exact ra) | (with_reducible exact row_new' (by first | omega | (simp; done) | (simp; omega))) | (with_reducible refine Row.drew ?_) | (with_reducible refine Row.drewN ?_ _) | (with_reducible refine Row.alloc ?_ _) | (with_reducible apply Row.set4) | (with_reducible apply Row.set4a) | (with_reducible apply Row.set4b) | (with_reducible apply Row.set2) | (with_reducible apply Row.set1) | (with_reducible refine Row.set_other ?_ _ (by first | omega | (simp; done) | (simp; omega))))), (by repeat (first | (with_reducible exact row_new' (by first | omega | (simp; done) | (simp; omega))) | (with_reducible refine Row.drew ?_) | (with_reducible refine Row.drewN ?_ _) | (with_reducible refine Row.alloc ?_ _) | (with_reducible apply Row.set4) | (with_reducible apply Row.set4a) | (with_reducible apply Row.set4b) | (with_reducible apply Row.set2) | (with_reducible apply Row.set1) | (with_reducible refine Row.set_other ?_ _ (by first | omega | (simp; done) | (simp; omega)))))⟩ ?_
  clear ra
  clear sa ca0 ca1 ca2 ca3
  clear hB sB
  rintro V6 ⟨hB, ra, rb⟩
  have sa := ra.1
  have ca0 : V6.cell? ⟨W3.heap.size, 0, none⟩ = some (.string (S a.lo.num)) := Row.cell_at ra 0 rfl
  have ca1 : V6.cell? ⟨W3.heap.size, 1, none⟩ = some (.string (S (a.lo.den : Int))) := Row.cell_at ra 1 rfl
  have ca2 : V6.cell? ⟨W3.heap.size, 2, none⟩ = some (.string (S a.hi.num)) := Row.cell_at ra 2 rfl
  have ca3 : V6.cell? ⟨W3.heap.size, 3, none⟩ = some (.string (S (a.hi.den : Int))) := Row.cell_at ra 3 rfl
  have sb := rb.1
  have cb0 : V6.cell? ⟨W5.heap.size, 0, none⟩ = some (.string (S b.lo.num)) := Row.cell_at rb 0 rfl
  have cb1 : V6.cell? ⟨W5.heap.size, 1, none⟩ = some (.string (S (b.lo.den : Int))) := Row.cell_at rb 1 rfl
  have cb2 : V6.cell? ⟨W5.heap.size, 2, none⟩ = some (.string (S b.hi.num)) := Row.cell_at rb 2 rfl
  have cb3 : V6.cell? ⟨W5.heap.size, 3, none⟩ = some (.string (S (b.hi.den : Int))) := Row.cell_at rb 3 rfl
  refine (MI _).mono ?_
  rintro e W7 ⟨r, ⟨dr, hr⟩, rfl, h1⟩
  clear sa ca0 ca1 ca2 ca3
  clear sb cb0 cb1 cb2 cb3
  replace hB := hB.trans (h1.mono hB.size)
  replace ra := Row.below ra h1
  replace rb := Row.below rb h1
  clear h1
  have sa := ra.1
  have ca0 : W7.cell? ⟨W3.heap.size, 0, none⟩ = some (.string (S a.lo.num)) := Row.cell_at ra 0 rfl
  have ca1 : W7.cell? ⟨W3.heap.size, 1, none⟩ = some (.string (S (a.lo.den : Int))) := Row.cell_at ra 1 rfl
  have ca2 : W7.cell? ⟨W3.heap.size, 2, none⟩ = some (.string (S a.hi.num)) := Row.cell_at ra 2 rfl
  have ca3 : W7.cell? ⟨W3.heap.size, 3, none⟩ = some (.string (S (a.hi.den : Int))) := Row.cell_at ra 3 rfl
  have sb := rb.1
  have cb0 : W7.cell? ⟨W5.heap.size, 0, none⟩ = some (.string (S b.lo.num)) := Row.cell_at rb 0 rfl
  have cb1 : W7.cell? ⟨W5.heap.size, 1, none⟩ = some (.string (S (b.lo.den : Int))) := Row.cell_at rb 1 rfl
  have cb2 : W7.cell? ⟨W5.heap.size, 2, none⟩ = some (.string (S b.hi.num)) := Row.cell_at rb 2 rfl
  have cb3 : W7.cell? ⟨W5.heap.size, 3, none⟩ = some (.string (S (b.hi.den : Int))) := Row.cell_at rb 3 rfl
  unfold Q
  go_wp2_with fail
  have sB := hB.size
  refine world_cut (fun X => Below w.heap.size w X ∧ Row X W3.heap.size (.cells #[.string (S a.lo.num), .string (S (a.lo.den : Int)), .string (S a.hi.num), .string (S (a.hi.den : Int))] 29) ∧ Row X W5.heap.size (.cells #[.string (S b.lo.num), .string (S (b.lo.den : Int)), .string (S b.hi.num), .string (S (b.hi.den : Int))] 29) ∧ Row X W7.heap.size (.cells #[.string (S r.num), .string (S (r.den : Int))] 26)) ⟨(by repeat (first | (with_reducible exact hB) | (with_reducible exact Below.refl _ _) | (with_reducible refine Below.drew ?_) | (with_reducible refine below_drewN ?_ _) | (with_reducible refine Below.alloc ?_ (by first | omega | (simp; done) | (simp; omega)) _) | (with_reducible refine Below.setCell ?_ (by first | omega | (simp; done) | (simp; omega)) _))), (by repeat (first | (with_reducible exact ra) | (with_reducible exact row_new' (by first | omega | (simp; done) | (simp; omega))) | (with_reducible refine Row.drew ?_) | (with_reducible refine Row.drewN ?_ _) | (with_reducible refine Row.alloc ?_ _) | (with_reducible apply Row.set4) | (with_reducible apply Row.set4a) | (with_reducible apply Row.set4b) | (with_reducible apply Row.set2) | (with_reducible apply Row.set1) | (with_reducible refine Row.set_other ?_ _ (by first | omega | (simp; done) | (simp; omega))))), (by repeat (first | (with_reducible exact rb) | (with_reducible exact row_new' (by first | omega | (simp; done) | (simp; omega))) | (with_reducible refine Row.drew ?_) | (with_reducible refine Row.drewN ?_ _) | (with_reducible refine Row.alloc ?_ _) | (with_reducible apply Row.set4) | (with_reducible apply Row.set4a) | (with_reducible apply Row.set4b) | (with_reducible apply Row.set2) | (with_reducible apply Row.set1) | (with_reducible refine Row.set_other ?_ _ (by first | omega | (simp; done) | (simp; omega))))), (by repeat (first | (with_reducible exact row_new' (by first | omega | (simp; done) | (simp; omega))) | (with_reducible refine Row.drew ?_) | (with_reducible refine Row.drewN ?_ _) | (with_reducible refine Row.alloc ?_ _) | (with_reducible apply Row.set4) | (with_reducible apply Row.set4a) | (with_reducible apply Row.set4b) | (with_reducible apply Row.set2) | (with_reducible apply Row.set1) | (with_reducible refine Row.set_other ?_ _ (by first | omega | (simp; done) | (simp; omega)))))⟩ ?_
  clear ra
  clear sa ca0 ca1 ca2 ca3
  clear rb
  clear sb cb0 cb1 cb2 cb3
  clear hB sB
  rintro V8 ⟨hB, ra, rb, rr⟩
  have sa := ra.1
  have ca0 : V8.cell? ⟨W3.heap.size, 0, none⟩ = some (.string (S a.lo.num)) := Row.cell_at ra 0 rfl
  have ca1 : V8.cell? ⟨W3.heap.size, 1, none⟩ = some (.string (S (a.lo.den : Int))) := Row.cell_at ra 1 rfl
  have ca2 : V8.cell? ⟨W3.heap.size, 2, none⟩ = some (.string (S a.hi.num)) := Row.cell_at ra 2 rfl
  have ca3 : V8.cell? ⟨W3.heap.size, 3, none⟩ = some (.string (S (a.hi.den : Int))) := Row.cell_at ra 3 rfl
  have sb := rb.1
  have cb0 : V8.cell? ⟨W5.heap.size, 0, none⟩ = some (.string (S b.lo.num)) := Row.cell_at rb 0 rfl
  have cb1 : V8.cell? ⟨W5.heap.size, 1, none⟩ = some (.string (S (b.lo.den : Int))) := Row.cell_at rb 1 rfl
  have cb2 : V8.cell? ⟨W5.heap.size, 2, none⟩ = some (.string (S b.hi.num)) := Row.cell_at rb 2 rfl
  have cb3 : V8.cell? ⟨W5.heap.size, 3, none⟩ = some (.string (S (b.hi.den : Int))) := Row.cell_at rb 3 rfl
  have sr := rr.1
  have cr0 : V8.cell? ⟨W7.heap.size, 0, none⟩ = some (.string (S r.num)) := Row.cell_at rr 0 rfl
  have cr1 : V8.cell? ⟨W7.heap.size, 1, none⟩ = some (.string (S (r.den : Int))) := Row.cell_at rr 1 rfl
  refine (MJ _).mono ?_
  rintro e W9 ⟨s, ⟨ds, hs⟩, rfl, h1⟩
  clear sa ca0 ca1 ca2 ca3
  clear sb cb0 cb1 cb2 cb3
  clear sr cr0 cr1
  replace hB := hB.trans (h1.mono hB.size)
  replace ra := Row.below ra h1
  replace rb := Row.below rb h1
  replace rr := Row.below rr h1
  clear h1
  have sa := ra.1
  have ca0 : W9.cell? ⟨W3.heap.size, 0, none⟩ = some (.string (S a.lo.num)) := Row.cell_at ra 0 rfl
  have ca1 : W9.cell? ⟨W3.heap.size, 1, none⟩ = some (.string (S (a.lo.den : Int))) := Row.cell_at ra 1 rfl
  have ca2 : W9.cell? ⟨W3.heap.size, 2, none⟩ = some (.string (S a.hi.num)) := Row.cell_at ra 2 rfl
  have ca3 : W9.cell? ⟨W3.heap.size, 3, none⟩ = some (.string (S (a.hi.den : Int))) := Row.cell_at ra 3 rfl
  have sb := rb.1
  have cb0 : W9.cell? ⟨W5.heap.size, 0, none⟩ = some (.string (S b.lo.num)) := Row.cell_at rb 0 rfl
  have cb1 : W9.cell? ⟨W5.heap.size, 1, none⟩ = some (.string (S (b.lo.den : Int))) := Row.cell_at rb 1 rfl
  have cb2 : W9.cell? ⟨W5.heap.size, 2, none⟩ = some (.string (S b.hi.num)) := Row.cell_at rb 2 rfl
  have cb3 : W9.cell? ⟨W5.heap.size, 3, none⟩ = some (.string (S (b.hi.den : Int))) := Row.cell_at rb 3 rfl
  have sr := rr.1
  have cr0 : W9.cell? ⟨W7.heap.size, 0, none⟩ = some (.string (S r.num)) := Row.cell_at rr 0 rfl
  have cr1 : W9.cell? ⟨W7.heap.size, 1, none⟩ = some (.string (S (r.den : Int))) := Row.cell_at rr 1 rfl
  unfold Q
  clear MS MX MY MI MJ
  by_cases hfr : b.Free
  · have CALLS : ∀ W, EnvE a0 W → Calls Tryz.prog 27 #[.agg #[.string (S a.lo.num), .string (S (a.lo.den : Int)), .string (S a.hi.num), .string (S (a.hi.den : Int))], .agg #[.string (S b.lo.num), .string (S (b.lo.den : Int)), .string (S b.hi.num), .string (S (b.hi.den : Int))], .int .i64 3] W (fun e w' => ∃ (zs us : List Value) (g gc : Nat) (gs : Array Value) (h hc : Nat) (hs : Array Value), e = .returned (.tuple #[.slice (some ⟨g, 0, none⟩) 8 gc, .slice (some ⟨h, 0, none⟩) 8 hc]) ∧ Row w' g (.cells gs 29) ∧ Row w' h (.cells hs 31) ∧ gs.toList.take 32 = .string (S (addI a b).lo.num) :: .string (S ((addI a b).lo.den : Int)) :: .string (S (addI a b).hi.num) :: .string (S ((addI a b).hi.den : Int)) :: .string (S (subI a b).lo.num) :: .string (S ((subI a b).lo.den : Int)) :: .string (S (subI a b).hi.num) :: .string (S ((subI a b).hi.den : Int)) :: .string (S (mulI a b).lo.num) :: .string (S ((mulI a b).lo.den : Int)) :: .string (S (mulI a b).hi.num) :: .string (S ((mulI a b).hi.den : Int)) :: .string (S (divI a b).lo.num) :: .string (S ((divI a b).lo.den : Int)) :: .string (S (divI a b).hi.num) :: .string (S ((divI a b).hi.den : Int)) :: zs ∧ hs.toList.take 8 = .int .i64 0 :: .int .i64 0 :: .int .i64 0 :: .int .i64 0 :: us ∧ Below W.heap.size W w') := by
      intro W h
      refine (ecalls 3 da db oa ob (by omega) (by omega) (by omega) W h).mono ?_
      intro e w' he'
      obtain ⟨f, g, gc, gs, h, hc, hs, hf, rfl, hg, hh, rg, rh, xg, xh, hb⟩ := callsOk.open he'
      have e0 : f 0 = some (addI a b) := hf 0 (by omega)
      have e1 : f 1 = some (subI a b) := hf 1 (by omega)
      have e2 : f 2 = some (mulI a b) := hf 2 (by omega)
      have e3 : f 3 = some (divI a b) := (hf 3 (by omega)).resolve_right (fun h => h.1 hfr) |>.2
      rw [e0, e1, e2, e3] at xg xh
      exact ⟨_, _, g, gc, gs, h, hc, hs, rfl, rg, rh, xg, xh, hb⟩
    have ADD := fun W (h : Env W) => qadd dr ds (by omega) W h
    have SUB := fun W (h : Env W) => qsub dr ds (by omega) W h
    have MUL := fun W (h : Env W) => qmul dr ds (by omega) W h
    have DIV := fun W (h : Env W) => qdiv dr ds (by omega) (hfr.ne hs) W h
    have C0 := fun W (h : Env W) => econtains (addI a b) (r + s) ((addI_dig da db).mono (by omega)) ((dr.add ds).mono (by omega)) W h
    rw [decide_eq_true (show (addI a b).lo ≤ r + s ∧ r + s ≤ (addI a b).hi from addI_has hr hs)] at C0
    have C1 := fun W (h : Env W) => econtains (subI a b) (r - s) ((subI_dig da db).mono (by omega)) ((dr.sub ds).mono (by omega)) W h
    rw [decide_eq_true (show (subI a b).lo ≤ r - s ∧ r - s ≤ (subI a b).hi from subI_has hr hs)] at C1
    have C2 := fun W (h : Env W) => econtains (mulI a b) (r * s) ((mulI_dig da db).mono (by omega)) ((dr.mul ds).mono (by omega)) W h
    rw [decide_eq_true (show (mulI a b).lo ≤ r * s ∧ r * s ≤ (mulI a b).hi from mulI_has hr hs)] at C2
    have C3 := fun W (h : Env W) => econtains (divI a b) (r / s) ((divI_dig da db hfr ob).mono (by omega)) ((dr.div ds (hfr.ne hs)).mono (by omega)) W h
    rw [decide_eq_true (show (divI a b).lo ≤ r / s ∧ r / s ≤ (divI a b).hi from divI_has hfr hr hs)] at C3
    have R0 := fun W => lratio (n := 0) (d := 1) ⟨by omega, by omega⟩ ⟨by omega, by omega⟩ (by omega) W
    have CB := fun W (h : Env W) => econtains b (Rat.divInt 0 1) (db.mono (by omega)) ((small_dig (n := 0) (d := 1) (by decide) (by decide) (by decide)).mono (by omega)) W h
    rw [decide_eq_false (show ¬ (b.lo ≤ Rat.divInt 0 1 ∧ Rat.divInt 0 1 ≤ b.hi) from fun h => Iv.free_iff.1 hfr h)] at CB
    unfold QIs at R0
    unfold QOk at ADD SUB MUL DIV
    unfold BoolOk at C0 C1 C2 CB C3
    unfold I at C0 C1 C2 CB C3
    unfold Q at C0 C1 C2 CB R0 ADD SUB MUL C3 DIV
    clear da db dr ds hr hs oa ob hfr h1one h2two
    generalize hg : S a.lo.num = aln at *
    clear hg
    generalize hg : S (a.lo.den : Int) = ald at *
    clear hg
    generalize hg : S a.hi.num = ahn at *
    clear hg
    generalize hg : S (a.hi.den : Int) = ahd at *
    clear hg
    generalize hg : S b.lo.num = bln at *
    clear hg
    generalize hg : S (b.lo.den : Int) = bld at *
    clear hg
    generalize hg : S b.hi.num = bhn at *
    clear hg
    generalize hg : S (b.hi.den : Int) = bhd at *
    clear hg
    generalize hg : S r.num = rn at *
    clear hg
    generalize hg : S (r.den : Int) = rd at *
    clear hg
    generalize hg : S s.num = sn at *
    clear hg
    generalize hg : S (s.den : Int) = sd at *
    clear hg
    generalize hg : S (addI a b).lo.num = Aln at *
    clear hg
    generalize hg : S ((addI a b).lo.den : Int) = Ald at *
    clear hg
    generalize hg : S (addI a b).hi.num = Ahn at *
    clear hg
    generalize hg : S ((addI a b).hi.den : Int) = Ahd at *
    clear hg
    generalize hg : S (subI a b).lo.num = Dln at *
    clear hg
    generalize hg : S ((subI a b).lo.den : Int) = Dld at *
    clear hg
    generalize hg : S (subI a b).hi.num = Dhn at *
    clear hg
    generalize hg : S ((subI a b).hi.den : Int) = Dhd at *
    clear hg
    generalize hg : S (mulI a b).lo.num = Mln at *
    clear hg
    generalize hg : S ((mulI a b).lo.den : Int) = Mld at *
    clear hg
    generalize hg : S (mulI a b).hi.num = Mhn at *
    clear hg
    generalize hg : S ((mulI a b).hi.den : Int) = Mhd at *
    clear hg
    generalize hg : S (divI a b).lo.num = Vln at *
    clear hg
    generalize hg : S ((divI a b).lo.den : Int) = Vld at *
    clear hg
    generalize hg : S (divI a b).hi.num = Vhn at *
    clear hg
    generalize hg : S ((divI a b).hi.den : Int) = Vhd at *
    clear hg
    generalize hg : S (r + s).num = ran at *
    clear hg
    generalize hg : S ((r + s).den : Int) = rad at *
    clear hg
    generalize hg : S (r - s).num = rdn at *
    clear hg
    generalize hg : S ((r - s).den : Int) = rdd at *
    clear hg
    generalize hg : S (r * s).num = rmn at *
    clear hg
    generalize hg : S ((r * s).den : Int) = rmd at *
    clear hg
    generalize hg : S (r / s).num = rvn at *
    clear hg
    generalize hg : S ((r / s).den : Int) = rvd at *
    clear hg
    generalize hg : S (Rat.divInt 0 1).num = zn at *
    clear hg
    generalize hg : S ((Rat.divInt 0 1).den : Int) = zd at *
    clear hg
    go_wp2_with fail
    have sB := hB.size
    refine world_cut (fun X => Below w.heap.size w X ∧ Row X W5.heap.size (.cells #[.string bln, .string bld, .string bhn, .string bhd] 29) ∧ Row X W7.heap.size (.cells #[.string rn, .string rd] 26) ∧ Row X W9.heap.size (.cells #[.string sn, .string sd] 26)) ⟨(by repeat (first | (with_reducible exact hB) | (with_reducible exact Below.refl _ _) | (with_reducible refine Below.drew ?_) | (with_reducible refine below_drewN ?_ _) | (with_reducible refine Below.alloc ?_ (by first | omega | (simp; done) | (simp; omega)) _) | (with_reducible refine Below.setCell ?_ (by first | omega | (simp; done) | (simp; omega)) _))), (by repeat (first | (with_reducible exact rb) | (with_reducible exact row_new' (by first | omega | (simp; done) | (simp; omega))) | (with_reducible refine Row.drew ?_) | (with_reducible refine Row.drewN ?_ _) | (with_reducible refine Row.alloc ?_ _) | (with_reducible apply Row.set4) | (with_reducible apply Row.set4a) | (with_reducible apply Row.set4b) | (with_reducible apply Row.set2) | (with_reducible apply Row.set1) | (with_reducible refine Row.set_other ?_ _ (by first | omega | (simp; done) | (simp; omega))))), (by repeat (first | (with_reducible exact rr) | (with_reducible exact row_new' (by first | omega | (simp; done) | (simp; omega))) | (with_reducible refine Row.drew ?_) | (with_reducible refine Row.drewN ?_ _) | (with_reducible refine Row.alloc ?_ _) | (with_reducible apply Row.set4) | (with_reducible apply Row.set4a) | (with_reducible apply Row.set4b) | (with_reducible apply Row.set2) | (with_reducible apply Row.set1) | (with_reducible refine Row.set_other ?_ _ (by first | omega | (simp; done) | (simp; omega))))), (by repeat (first | (with_reducible exact row_new' (by first | omega | (simp; done) | (simp; omega))) | (with_reducible refine Row.drew ?_) | (with_reducible refine Row.drewN ?_ _) | (with_reducible refine Row.alloc ?_ _) | (with_reducible apply Row.set4) | (with_reducible apply Row.set4a) | (with_reducible apply Row.set4b) | (with_reducible apply Row.set2) | (with_reducible apply Row.set1) | (with_reducible refine Row.set_other ?_ _ (by first | omega | (simp; done) | (simp; omega)))))⟩ ?_
    clear ra
    clear sa ca0 ca1 ca2 ca3
    clear rb
    clear sb cb0 cb1 cb2 cb3
    clear rr
    clear sr cr0 cr1
    clear hB sB
    rintro V10 ⟨hB, rb, rr, rs⟩
    have sb := rb.1
    have cb0 : V10.cell? ⟨W5.heap.size, 0, none⟩ = some (.string bln) := Row.cell_at rb 0 rfl
    have cb1 : V10.cell? ⟨W5.heap.size, 1, none⟩ = some (.string bld) := Row.cell_at rb 1 rfl
    have cb2 : V10.cell? ⟨W5.heap.size, 2, none⟩ = some (.string bhn) := Row.cell_at rb 2 rfl
    have cb3 : V10.cell? ⟨W5.heap.size, 3, none⟩ = some (.string bhd) := Row.cell_at rb 3 rfl
    have sr := rr.1
    have cr0 : V10.cell? ⟨W7.heap.size, 0, none⟩ = some (.string rn) := Row.cell_at rr 0 rfl
    have cr1 : V10.cell? ⟨W7.heap.size, 1, none⟩ = some (.string rd) := Row.cell_at rr 1 rfl
    have ss := rs.1
    have cs0 : V10.cell? ⟨W9.heap.size, 0, none⟩ = some (.string sn) := Row.cell_at rs 0 rfl
    have cs1 : V10.cell? ⟨W9.heap.size, 1, none⟩ = some (.string sd) := Row.cell_at rs 1 rfl
    refine (CALLS _ (he.below hB)).mono ?_
    rintro e W11 ⟨zs, us, g, gc, gs, h, hc, hs, rfl, rg, rh, xg, xh, h1⟩
    clear sb cb0 cb1 cb2 cb3
    clear sr cr0 cr1
    clear ss cs0 cs1
    replace hB := hB.trans (h1.mono hB.size)
    replace rb := Row.below rb h1
    replace rr := Row.below rr h1
    replace rs := Row.below rs h1
    clear h1
    have sb := rb.1
    have cb0 : W11.cell? ⟨W5.heap.size, 0, none⟩ = some (.string bln) := Row.cell_at rb 0 rfl
    have cb1 : W11.cell? ⟨W5.heap.size, 1, none⟩ = some (.string bld) := Row.cell_at rb 1 rfl
    have cb2 : W11.cell? ⟨W5.heap.size, 2, none⟩ = some (.string bhn) := Row.cell_at rb 2 rfl
    have cb3 : W11.cell? ⟨W5.heap.size, 3, none⟩ = some (.string bhd) := Row.cell_at rb 3 rfl
    have sr := rr.1
    have cr0 : W11.cell? ⟨W7.heap.size, 0, none⟩ = some (.string rn) := Row.cell_at rr 0 rfl
    have cr1 : W11.cell? ⟨W7.heap.size, 1, none⟩ = some (.string rd) := Row.cell_at rr 1 rfl
    have ss := rs.1
    have cs0 : W11.cell? ⟨W9.heap.size, 0, none⟩ = some (.string sn) := Row.cell_at rs 0 rfl
    have cs1 : W11.cell? ⟨W9.heap.size, 1, none⟩ = some (.string sd) := Row.cell_at rs 1 rfl
    have sg := rg.1
    have cg0 : W11.cell? ⟨g, 0, none⟩ = some (.string Aln) := Row.cell_take rg xg rfl
    have cg1 : W11.cell? ⟨g, 1, none⟩ = some (.string Ald) := Row.cell_take rg xg rfl
    have cg2 : W11.cell? ⟨g, 2, none⟩ = some (.string Ahn) := Row.cell_take rg xg rfl
    have cg3 : W11.cell? ⟨g, 3, none⟩ = some (.string Ahd) := Row.cell_take rg xg rfl
    have cg4 : W11.cell? ⟨g, 4, none⟩ = some (.string Dln) := Row.cell_take rg xg rfl
    have cg5 : W11.cell? ⟨g, 5, none⟩ = some (.string Dld) := Row.cell_take rg xg rfl
    have cg6 : W11.cell? ⟨g, 6, none⟩ = some (.string Dhn) := Row.cell_take rg xg rfl
    have cg7 : W11.cell? ⟨g, 7, none⟩ = some (.string Dhd) := Row.cell_take rg xg rfl
    have cg8 : W11.cell? ⟨g, 8, none⟩ = some (.string Mln) := Row.cell_take rg xg rfl
    have cg9 : W11.cell? ⟨g, 9, none⟩ = some (.string Mld) := Row.cell_take rg xg rfl
    have cg10 : W11.cell? ⟨g, 10, none⟩ = some (.string Mhn) := Row.cell_take rg xg rfl
    have cg11 : W11.cell? ⟨g, 11, none⟩ = some (.string Mhd) := Row.cell_take rg xg rfl
    have cg12 : W11.cell? ⟨g, 12, none⟩ = some (.string Vln) := Row.cell_take rg xg rfl
    have cg13 : W11.cell? ⟨g, 13, none⟩ = some (.string Vld) := Row.cell_take rg xg rfl
    have cg14 : W11.cell? ⟨g, 14, none⟩ = some (.string Vhn) := Row.cell_take rg xg rfl
    have cg15 : W11.cell? ⟨g, 15, none⟩ = some (.string Vhd) := Row.cell_take rg xg rfl
    have sh := rh.1
    have ch0 : W11.cell? ⟨h, 0, none⟩ = some (.int .i64 0) := Row.cell_take rh xh rfl
    have ch1 : W11.cell? ⟨h, 1, none⟩ = some (.int .i64 0) := Row.cell_take rh xh rfl
    have ch2 : W11.cell? ⟨h, 2, none⟩ = some (.int .i64 0) := Row.cell_take rh xh rfl
    have ch3 : W11.cell? ⟨h, 3, none⟩ = some (.int .i64 0) := Row.cell_take rh xh rfl
    go_wp2_with fail
    refine (ADD _ (he.env.below hB)).mono ?_
    rintro e W12 ⟨rfl, h1⟩
    clear sb cb0 cb1 cb2 cb3
    clear sr cr0 cr1
    clear ss cs0 cs1
    clear sg cg0 cg1 cg2 cg3 cg4 cg5 cg6 cg7 cg8 cg9 cg10 cg11 cg12 cg13 cg14 cg15
    clear sh ch0 ch1 ch2 ch3
    replace hB := hB.trans (h1.mono hB.size)
    replace rb := Row.below rb h1
    replace rr := Row.below rr h1
    replace rs := Row.below rs h1
    replace rg := Row.below rg h1
    replace rh := Row.below rh h1
    clear h1
    have sb := rb.1
    have cb0 : W12.cell? ⟨W5.heap.size, 0, none⟩ = some (.string bln) := Row.cell_at rb 0 rfl
    have cb1 : W12.cell? ⟨W5.heap.size, 1, none⟩ = some (.string bld) := Row.cell_at rb 1 rfl
    have cb2 : W12.cell? ⟨W5.heap.size, 2, none⟩ = some (.string bhn) := Row.cell_at rb 2 rfl
    have cb3 : W12.cell? ⟨W5.heap.size, 3, none⟩ = some (.string bhd) := Row.cell_at rb 3 rfl
    have sr := rr.1
    have cr0 : W12.cell? ⟨W7.heap.size, 0, none⟩ = some (.string rn) := Row.cell_at rr 0 rfl
    have cr1 : W12.cell? ⟨W7.heap.size, 1, none⟩ = some (.string rd) := Row.cell_at rr 1 rfl
    have ss := rs.1
    have cs0 : W12.cell? ⟨W9.heap.size, 0, none⟩ = some (.string sn) := Row.cell_at rs 0 rfl
    have cs1 : W12.cell? ⟨W9.heap.size, 1, none⟩ = some (.string sd) := Row.cell_at rs 1 rfl
    have sg := rg.1
    have cg0 : W12.cell? ⟨g, 0, none⟩ = some (.string Aln) := Row.cell_take rg xg rfl
    have cg1 : W12.cell? ⟨g, 1, none⟩ = some (.string Ald) := Row.cell_take rg xg rfl
    have cg2 : W12.cell? ⟨g, 2, none⟩ = some (.string Ahn) := Row.cell_take rg xg rfl
    have cg3 : W12.cell? ⟨g, 3, none⟩ = some (.string Ahd) := Row.cell_take rg xg rfl
    have cg4 : W12.cell? ⟨g, 4, none⟩ = some (.string Dln) := Row.cell_take rg xg rfl
    have cg5 : W12.cell? ⟨g, 5, none⟩ = some (.string Dld) := Row.cell_take rg xg rfl
    have cg6 : W12.cell? ⟨g, 6, none⟩ = some (.string Dhn) := Row.cell_take rg xg rfl
    have cg7 : W12.cell? ⟨g, 7, none⟩ = some (.string Dhd) := Row.cell_take rg xg rfl
    have cg8 : W12.cell? ⟨g, 8, none⟩ = some (.string Mln) := Row.cell_take rg xg rfl
    have cg9 : W12.cell? ⟨g, 9, none⟩ = some (.string Mld) := Row.cell_take rg xg rfl
    have cg10 : W12.cell? ⟨g, 10, none⟩ = some (.string Mhn) := Row.cell_take rg xg rfl
    have cg11 : W12.cell? ⟨g, 11, none⟩ = some (.string Mhd) := Row.cell_take rg xg rfl
    have cg12 : W12.cell? ⟨g, 12, none⟩ = some (.string Vln) := Row.cell_take rg xg rfl
    have cg13 : W12.cell? ⟨g, 13, none⟩ = some (.string Vld) := Row.cell_take rg xg rfl
    have cg14 : W12.cell? ⟨g, 14, none⟩ = some (.string Vhn) := Row.cell_take rg xg rfl
    have cg15 : W12.cell? ⟨g, 15, none⟩ = some (.string Vhd) := Row.cell_take rg xg rfl
    have sh := rh.1
    have ch0 : W12.cell? ⟨h, 0, none⟩ = some (.int .i64 0) := Row.cell_take rh xh rfl
    have ch1 : W12.cell? ⟨h, 1, none⟩ = some (.int .i64 0) := Row.cell_take rh xh rfl
    have ch2 : W12.cell? ⟨h, 2, none⟩ = some (.int .i64 0) := Row.cell_take rh xh rfl
    have ch3 : W12.cell? ⟨h, 3, none⟩ = some (.int .i64 0) := Row.cell_take rh xh rfl
    go_wp2_with fail
    have sB := hB.size
    refine world_cut (fun X => Below w.heap.size w X ∧ Row X W5.heap.size (.cells #[.string bln, .string bld, .string bhn, .string bhd] 29) ∧ Row X W7.heap.size (.cells #[.string rn, .string rd] 26) ∧ Row X W9.heap.size (.cells #[.string sn, .string sd] 26) ∧ Row X g (.cells gs 29) ∧ Row X h (.cells hs 31) ∧ Row X W12.heap.size (.cells #[.string ran, .string rad] 26)) ⟨(by repeat (first | (with_reducible exact hB) | (with_reducible exact Below.refl _ _) | (with_reducible refine Below.drew ?_) | (with_reducible refine below_drewN ?_ _) | (with_reducible refine Below.alloc ?_ (by first | omega | (simp; done) | (simp; omega)) _) | (with_reducible refine Below.setCell ?_ (by first | omega | (simp; done) | (simp; omega)) _))), (by repeat (first | (with_reducible exact rb) | (with_reducible exact row_new' (by first | omega | (simp; done) | (simp; omega))) | (with_reducible refine Row.drew ?_) | (with_reducible refine Row.drewN ?_ _) | (with_reducible refine Row.alloc ?_ _) | (with_reducible apply Row.set4) | (with_reducible apply Row.set4a) | (with_reducible apply Row.set4b) | (with_reducible apply Row.set2) | (with_reducible apply Row.set1) | (with_reducible refine Row.set_other ?_ _ (by first | omega | (simp; done) | (simp; omega))))), (by repeat (first | (with_reducible exact rr) | (with_reducible exact row_new' (by first | omega | (simp; done) | (simp; omega))) | (with_reducible refine Row.drew ?_) | (with_reducible refine Row.drewN ?_ _) | (with_reducible refine Row.alloc ?_ _) | (with_reducible apply Row.set4) | (with_reducible apply Row.set4a) | (with_reducible apply Row.set4b) | (with_reducible apply Row.set2) | (with_reducible apply Row.set1) | (with_reducible refine Row.set_other ?_ _ (by first | omega | (simp; done) | (simp; omega))))), (by repeat (first | (with_reducible exact rs) | (with_reducible exact row_new' (by first | omega | (simp; done) | (simp; omega))) | (with_reducible refine Row.drew ?_) | (with_reducible refine Row.drewN ?_ _) | (with_reducible refine Row.alloc ?_ _) | (with_reducible apply Row.set4) | (with_reducible apply Row.set4a) | (with_reducible apply Row.set4b) | (with_reducible apply Row.set2) | (with_reducible apply Row.set1) | (with_reducible refine Row.set_other ?_ _ (by first | omega | (simp; done) | (simp; omega))))), (by repeat (first | (with_reducible exact rg) | (with_reducible exact row_new' (by first | omega | (simp; done) | (simp; omega))) | (with_reducible refine Row.drew ?_) | (with_reducible refine Row.drewN ?_ _) | (with_reducible refine Row.alloc ?_ _) | (with_reducible apply Row.set4) | (with_reducible apply Row.set4a) | (with_reducible apply Row.set4b) | (with_reducible apply Row.set2) | (with_reducible apply Row.set1) | (with_reducible refine Row.set_other ?_ _ (by first | omega | (simp; done) | (simp; omega))))), (by repeat (first | (with_reducible exact rh) | (with_reducible exact row_new' (by first | omega | (simp; done) | (simp; omega))) | (with_reducible refine Row.drew ?_) | (with_reducible refine Row.drewN ?_ _) | (with_reducible refine Row.alloc ?_ _) | (with_reducible apply Row.set4) | (with_reducible apply Row.set4a) | (with_reducible apply Row.set4b) | (with_reducible apply Row.set2) | (with_reducible apply Row.set1) | (with_reducible refine Row.set_other ?_ _ (by first | omega | (simp; done) | (simp; omega))))), (by repeat (first | (with_reducible exact row_new' (by first | omega | (simp; done) | (simp; omega))) | (with_reducible refine Row.drew ?_) | (with_reducible refine Row.drewN ?_ _) | (with_reducible refine Row.alloc ?_ _) | (with_reducible apply Row.set4) | (with_reducible apply Row.set4a) | (with_reducible apply Row.set4b) | (with_reducible apply Row.set2) | (with_reducible apply Row.set1) | (with_reducible refine Row.set_other ?_ _ (by first | omega | (simp; done) | (simp; omega)))))⟩ ?_
    clear rb
    clear sb cb0 cb1 cb2 cb3
    clear rr
    clear sr cr0 cr1
    clear rs
    clear ss cs0 cs1
    clear rg
    clear sg cg0 cg1 cg2 cg3 cg4 cg5 cg6 cg7 cg8 cg9 cg10 cg11 cg12 cg13 cg14 cg15
    clear rh
    clear sh ch0 ch1 ch2 ch3
    clear hB sB
    rintro V13 ⟨hB, rb, rr, rs, rg, rh, rsu⟩
    have sb := rb.1
    have cb0 : V13.cell? ⟨W5.heap.size, 0, none⟩ = some (.string bln) := Row.cell_at rb 0 rfl
    have cb1 : V13.cell? ⟨W5.heap.size, 1, none⟩ = some (.string bld) := Row.cell_at rb 1 rfl
    have cb2 : V13.cell? ⟨W5.heap.size, 2, none⟩ = some (.string bhn) := Row.cell_at rb 2 rfl
    have cb3 : V13.cell? ⟨W5.heap.size, 3, none⟩ = some (.string bhd) := Row.cell_at rb 3 rfl
    have sr := rr.1
    have cr0 : V13.cell? ⟨W7.heap.size, 0, none⟩ = some (.string rn) := Row.cell_at rr 0 rfl
    have cr1 : V13.cell? ⟨W7.heap.size, 1, none⟩ = some (.string rd) := Row.cell_at rr 1 rfl
    have ss := rs.1
    have cs0 : V13.cell? ⟨W9.heap.size, 0, none⟩ = some (.string sn) := Row.cell_at rs 0 rfl
    have cs1 : V13.cell? ⟨W9.heap.size, 1, none⟩ = some (.string sd) := Row.cell_at rs 1 rfl
    have sg := rg.1
    have cg0 : V13.cell? ⟨g, 0, none⟩ = some (.string Aln) := Row.cell_take rg xg rfl
    have cg1 : V13.cell? ⟨g, 1, none⟩ = some (.string Ald) := Row.cell_take rg xg rfl
    have cg2 : V13.cell? ⟨g, 2, none⟩ = some (.string Ahn) := Row.cell_take rg xg rfl
    have cg3 : V13.cell? ⟨g, 3, none⟩ = some (.string Ahd) := Row.cell_take rg xg rfl
    have cg4 : V13.cell? ⟨g, 4, none⟩ = some (.string Dln) := Row.cell_take rg xg rfl
    have cg5 : V13.cell? ⟨g, 5, none⟩ = some (.string Dld) := Row.cell_take rg xg rfl
    have cg6 : V13.cell? ⟨g, 6, none⟩ = some (.string Dhn) := Row.cell_take rg xg rfl
    have cg7 : V13.cell? ⟨g, 7, none⟩ = some (.string Dhd) := Row.cell_take rg xg rfl
    have cg8 : V13.cell? ⟨g, 8, none⟩ = some (.string Mln) := Row.cell_take rg xg rfl
    have cg9 : V13.cell? ⟨g, 9, none⟩ = some (.string Mld) := Row.cell_take rg xg rfl
    have cg10 : V13.cell? ⟨g, 10, none⟩ = some (.string Mhn) := Row.cell_take rg xg rfl
    have cg11 : V13.cell? ⟨g, 11, none⟩ = some (.string Mhd) := Row.cell_take rg xg rfl
    have cg12 : V13.cell? ⟨g, 12, none⟩ = some (.string Vln) := Row.cell_take rg xg rfl
    have cg13 : V13.cell? ⟨g, 13, none⟩ = some (.string Vld) := Row.cell_take rg xg rfl
    have cg14 : V13.cell? ⟨g, 14, none⟩ = some (.string Vhn) := Row.cell_take rg xg rfl
    have cg15 : V13.cell? ⟨g, 15, none⟩ = some (.string Vhd) := Row.cell_take rg xg rfl
    have sh := rh.1
    have ch0 : V13.cell? ⟨h, 0, none⟩ = some (.int .i64 0) := Row.cell_take rh xh rfl
    have ch1 : V13.cell? ⟨h, 1, none⟩ = some (.int .i64 0) := Row.cell_take rh xh rfl
    have ch2 : V13.cell? ⟨h, 2, none⟩ = some (.int .i64 0) := Row.cell_take rh xh rfl
    have ch3 : V13.cell? ⟨h, 3, none⟩ = some (.int .i64 0) := Row.cell_take rh xh rfl
    have ssu := rsu.1
    have csu0 : V13.cell? ⟨W12.heap.size, 0, none⟩ = some (.string ran) := Row.cell_at rsu 0 rfl
    have csu1 : V13.cell? ⟨W12.heap.size, 1, none⟩ = some (.string rad) := Row.cell_at rsu 1 rfl
    refine (SUB _ (he.env.below hB)).mono ?_
    rintro e W14 ⟨rfl, h1⟩
    clear sb cb0 cb1 cb2 cb3
    clear sr cr0 cr1
    clear ss cs0 cs1
    clear sg cg0 cg1 cg2 cg3 cg4 cg5 cg6 cg7 cg8 cg9 cg10 cg11 cg12 cg13 cg14 cg15
    clear sh ch0 ch1 ch2 ch3
    clear ssu csu0 csu1
    replace hB := hB.trans (h1.mono hB.size)
    replace rb := Row.below rb h1
    replace rr := Row.below rr h1
    replace rs := Row.below rs h1
    replace rg := Row.below rg h1
    replace rh := Row.below rh h1
    replace rsu := Row.below rsu h1
    clear h1
    have sb := rb.1
    have cb0 : W14.cell? ⟨W5.heap.size, 0, none⟩ = some (.string bln) := Row.cell_at rb 0 rfl
    have cb1 : W14.cell? ⟨W5.heap.size, 1, none⟩ = some (.string bld) := Row.cell_at rb 1 rfl
    have cb2 : W14.cell? ⟨W5.heap.size, 2, none⟩ = some (.string bhn) := Row.cell_at rb 2 rfl
    have cb3 : W14.cell? ⟨W5.heap.size, 3, none⟩ = some (.string bhd) := Row.cell_at rb 3 rfl
    have sr := rr.1
    have cr0 : W14.cell? ⟨W7.heap.size, 0, none⟩ = some (.string rn) := Row.cell_at rr 0 rfl
    have cr1 : W14.cell? ⟨W7.heap.size, 1, none⟩ = some (.string rd) := Row.cell_at rr 1 rfl
    have ss := rs.1
    have cs0 : W14.cell? ⟨W9.heap.size, 0, none⟩ = some (.string sn) := Row.cell_at rs 0 rfl
    have cs1 : W14.cell? ⟨W9.heap.size, 1, none⟩ = some (.string sd) := Row.cell_at rs 1 rfl
    have sg := rg.1
    have cg0 : W14.cell? ⟨g, 0, none⟩ = some (.string Aln) := Row.cell_take rg xg rfl
    have cg1 : W14.cell? ⟨g, 1, none⟩ = some (.string Ald) := Row.cell_take rg xg rfl
    have cg2 : W14.cell? ⟨g, 2, none⟩ = some (.string Ahn) := Row.cell_take rg xg rfl
    have cg3 : W14.cell? ⟨g, 3, none⟩ = some (.string Ahd) := Row.cell_take rg xg rfl
    have cg4 : W14.cell? ⟨g, 4, none⟩ = some (.string Dln) := Row.cell_take rg xg rfl
    have cg5 : W14.cell? ⟨g, 5, none⟩ = some (.string Dld) := Row.cell_take rg xg rfl
    have cg6 : W14.cell? ⟨g, 6, none⟩ = some (.string Dhn) := Row.cell_take rg xg rfl
    have cg7 : W14.cell? ⟨g, 7, none⟩ = some (.string Dhd) := Row.cell_take rg xg rfl
    have cg8 : W14.cell? ⟨g, 8, none⟩ = some (.string Mln) := Row.cell_take rg xg rfl
    have cg9 : W14.cell? ⟨g, 9, none⟩ = some (.string Mld) := Row.cell_take rg xg rfl
    have cg10 : W14.cell? ⟨g, 10, none⟩ = some (.string Mhn) := Row.cell_take rg xg rfl
    have cg11 : W14.cell? ⟨g, 11, none⟩ = some (.string Mhd) := Row.cell_take rg xg rfl
    have cg12 : W14.cell? ⟨g, 12, none⟩ = some (.string Vln) := Row.cell_take rg xg rfl
    have cg13 : W14.cell? ⟨g, 13, none⟩ = some (.string Vld) := Row.cell_take rg xg rfl
    have cg14 : W14.cell? ⟨g, 14, none⟩ = some (.string Vhn) := Row.cell_take rg xg rfl
    have cg15 : W14.cell? ⟨g, 15, none⟩ = some (.string Vhd) := Row.cell_take rg xg rfl
    have sh := rh.1
    have ch0 : W14.cell? ⟨h, 0, none⟩ = some (.int .i64 0) := Row.cell_take rh xh rfl
    have ch1 : W14.cell? ⟨h, 1, none⟩ = some (.int .i64 0) := Row.cell_take rh xh rfl
    have ch2 : W14.cell? ⟨h, 2, none⟩ = some (.int .i64 0) := Row.cell_take rh xh rfl
    have ch3 : W14.cell? ⟨h, 3, none⟩ = some (.int .i64 0) := Row.cell_take rh xh rfl
    have ssu := rsu.1
    have csu0 : W14.cell? ⟨W12.heap.size, 0, none⟩ = some (.string ran) := Row.cell_at rsu 0 rfl
    have csu1 : W14.cell? ⟨W12.heap.size, 1, none⟩ = some (.string rad) := Row.cell_at rsu 1 rfl
    go_wp2_with fail
    have sB := hB.size
    refine world_cut (fun X => Below w.heap.size w X ∧ Row X W5.heap.size (.cells #[.string bln, .string bld, .string bhn, .string bhd] 29) ∧ Row X W7.heap.size (.cells #[.string rn, .string rd] 26) ∧ Row X W9.heap.size (.cells #[.string sn, .string sd] 26) ∧ Row X g (.cells gs 29) ∧ Row X h (.cells hs 31) ∧ Row X W12.heap.size (.cells #[.string ran, .string rad] 26) ∧ Row X W14.heap.size (.cells #[.string rdn, .string rdd] 26)) ⟨(by repeat (first | (with_reducible exact hB) | (with_reducible exact Below.refl _ _) | (with_reducible refine Below.drew ?_) | (with_reducible refine below_drewN ?_ _) | (with_reducible refine Below.alloc ?_ (by first | omega | (simp; done) | (simp; omega)) _) | (with_reducible refine Below.setCell ?_ (by first | omega | (simp; done) | (simp; omega)) _))), (by repeat (first | (with_reducible exact rb) | (with_reducible exact row_new' (by first | omega | (simp; done) | (simp; omega))) | (with_reducible refine Row.drew ?_) | (with_reducible refine Row.drewN ?_ _) | (with_reducible refine Row.alloc ?_ _) | (with_reducible apply Row.set4) | (with_reducible apply Row.set4a) | (with_reducible apply Row.set4b) | (with_reducible apply Row.set2) | (with_reducible apply Row.set1) | (with_reducible refine Row.set_other ?_ _ (by first | omega | (simp; done) | (simp; omega))))), (by repeat (first | (with_reducible exact rr) | (with_reducible exact row_new' (by first | omega | (simp; done) | (simp; omega))) | (with_reducible refine Row.drew ?_) | (with_reducible refine Row.drewN ?_ _) | (with_reducible refine Row.alloc ?_ _) | (with_reducible apply Row.set4) | (with_reducible apply Row.set4a) | (with_reducible apply Row.set4b) | (with_reducible apply Row.set2) | (with_reducible apply Row.set1) | (with_reducible refine Row.set_other ?_ _ (by first | omega | (simp; done) | (simp; omega))))), (by repeat (first | (with_reducible exact rs) | (with_reducible exact row_new' (by first | omega | (simp; done) | (simp; omega))) | (with_reducible refine Row.drew ?_) | (with_reducible refine Row.drewN ?_ _) | (with_reducible refine Row.alloc ?_ _) | (with_reducible apply Row.set4) | (with_reducible apply Row.set4a) | (with_reducible apply Row.set4b) | (with_reducible apply Row.set2) | (with_reducible apply Row.set1) | (with_reducible refine Row.set_other ?_ _ (by first | omega | (simp; done) | (simp; omega))))), (by repeat (first | (with_reducible exact rg) | (with_reducible exact row_new' (by first | omega | (simp; done) | (simp; omega))) | (with_reducible refine Row.drew ?_) | (with_reducible refine Row.drewN ?_ _) | (with_reducible refine Row.alloc ?_ _) | (with_reducible apply Row.set4) | (with_reducible apply Row.set4a) | (with_reducible apply Row.set4b) | (with_reducible apply Row.set2) | (with_reducible apply Row.set1) | (with_reducible refine Row.set_other ?_ _ (by first | omega | (simp; done) | (simp; omega))))), (by repeat (first | (with_reducible exact rh) | (with_reducible exact row_new' (by first | omega | (simp; done) | (simp; omega))) | (with_reducible refine Row.drew ?_) | (with_reducible refine Row.drewN ?_ _) | (with_reducible refine Row.alloc ?_ _) | (with_reducible apply Row.set4) | (with_reducible apply Row.set4a) | (with_reducible apply Row.set4b) | (with_reducible apply Row.set2) | (with_reducible apply Row.set1) | (with_reducible refine Row.set_other ?_ _ (by first | omega | (simp; done) | (simp; omega))))), (by repeat (first | (with_reducible exact rsu) | (with_reducible exact row_new' (by first | omega | (simp; done) | (simp; omega))) | (with_reducible refine Row.drew ?_) | (with_reducible refine Row.drewN ?_ _) | (with_reducible refine Row.alloc ?_ _) | (with_reducible apply Row.set4) | (with_reducible apply Row.set4a) | (with_reducible apply Row.set4b) | (with_reducible apply Row.set2) | (with_reducible apply Row.set1) | (with_reducible refine Row.set_other ?_ _ (by first | omega | (simp; done) | (simp; omega))))), (by repeat (first | (with_reducible exact row_new' (by first | omega | (simp; done) | (simp; omega))) | (with_reducible refine Row.drew ?_) | (with_reducible refine Row.drewN ?_ _) | (with_reducible refine Row.alloc ?_ _) | (with_reducible apply Row.set4) | (with_reducible apply Row.set4a) | (with_reducible apply Row.set4b) | (with_reducible apply Row.set2) | (with_reducible apply Row.set1) | (with_reducible refine Row.set_other ?_ _ (by first | omega | (simp; done) | (simp; omega)))))⟩ ?_
    clear rb
    clear sb cb0 cb1 cb2 cb3
    clear rr
    clear sr cr0 cr1
    clear rs
    clear ss cs0 cs1
    clear rg
    clear sg cg0 cg1 cg2 cg3 cg4 cg5 cg6 cg7 cg8 cg9 cg10 cg11 cg12 cg13 cg14 cg15
    clear rh
    clear sh ch0 ch1 ch2 ch3
    clear rsu
    clear ssu csu0 csu1
    clear hB sB
    rintro V15 ⟨hB, rb, rr, rs, rg, rh, rsu, rdi⟩
    have sb := rb.1
    have cb0 : V15.cell? ⟨W5.heap.size, 0, none⟩ = some (.string bln) := Row.cell_at rb 0 rfl
    have cb1 : V15.cell? ⟨W5.heap.size, 1, none⟩ = some (.string bld) := Row.cell_at rb 1 rfl
    have cb2 : V15.cell? ⟨W5.heap.size, 2, none⟩ = some (.string bhn) := Row.cell_at rb 2 rfl
    have cb3 : V15.cell? ⟨W5.heap.size, 3, none⟩ = some (.string bhd) := Row.cell_at rb 3 rfl
    have sr := rr.1
    have cr0 : V15.cell? ⟨W7.heap.size, 0, none⟩ = some (.string rn) := Row.cell_at rr 0 rfl
    have cr1 : V15.cell? ⟨W7.heap.size, 1, none⟩ = some (.string rd) := Row.cell_at rr 1 rfl
    have ss := rs.1
    have cs0 : V15.cell? ⟨W9.heap.size, 0, none⟩ = some (.string sn) := Row.cell_at rs 0 rfl
    have cs1 : V15.cell? ⟨W9.heap.size, 1, none⟩ = some (.string sd) := Row.cell_at rs 1 rfl
    have sg := rg.1
    have cg0 : V15.cell? ⟨g, 0, none⟩ = some (.string Aln) := Row.cell_take rg xg rfl
    have cg1 : V15.cell? ⟨g, 1, none⟩ = some (.string Ald) := Row.cell_take rg xg rfl
    have cg2 : V15.cell? ⟨g, 2, none⟩ = some (.string Ahn) := Row.cell_take rg xg rfl
    have cg3 : V15.cell? ⟨g, 3, none⟩ = some (.string Ahd) := Row.cell_take rg xg rfl
    have cg4 : V15.cell? ⟨g, 4, none⟩ = some (.string Dln) := Row.cell_take rg xg rfl
    have cg5 : V15.cell? ⟨g, 5, none⟩ = some (.string Dld) := Row.cell_take rg xg rfl
    have cg6 : V15.cell? ⟨g, 6, none⟩ = some (.string Dhn) := Row.cell_take rg xg rfl
    have cg7 : V15.cell? ⟨g, 7, none⟩ = some (.string Dhd) := Row.cell_take rg xg rfl
    have cg8 : V15.cell? ⟨g, 8, none⟩ = some (.string Mln) := Row.cell_take rg xg rfl
    have cg9 : V15.cell? ⟨g, 9, none⟩ = some (.string Mld) := Row.cell_take rg xg rfl
    have cg10 : V15.cell? ⟨g, 10, none⟩ = some (.string Mhn) := Row.cell_take rg xg rfl
    have cg11 : V15.cell? ⟨g, 11, none⟩ = some (.string Mhd) := Row.cell_take rg xg rfl
    have cg12 : V15.cell? ⟨g, 12, none⟩ = some (.string Vln) := Row.cell_take rg xg rfl
    have cg13 : V15.cell? ⟨g, 13, none⟩ = some (.string Vld) := Row.cell_take rg xg rfl
    have cg14 : V15.cell? ⟨g, 14, none⟩ = some (.string Vhn) := Row.cell_take rg xg rfl
    have cg15 : V15.cell? ⟨g, 15, none⟩ = some (.string Vhd) := Row.cell_take rg xg rfl
    have sh := rh.1
    have ch0 : V15.cell? ⟨h, 0, none⟩ = some (.int .i64 0) := Row.cell_take rh xh rfl
    have ch1 : V15.cell? ⟨h, 1, none⟩ = some (.int .i64 0) := Row.cell_take rh xh rfl
    have ch2 : V15.cell? ⟨h, 2, none⟩ = some (.int .i64 0) := Row.cell_take rh xh rfl
    have ch3 : V15.cell? ⟨h, 3, none⟩ = some (.int .i64 0) := Row.cell_take rh xh rfl
    have ssu := rsu.1
    have csu0 : V15.cell? ⟨W12.heap.size, 0, none⟩ = some (.string ran) := Row.cell_at rsu 0 rfl
    have csu1 : V15.cell? ⟨W12.heap.size, 1, none⟩ = some (.string rad) := Row.cell_at rsu 1 rfl
    have sdi := rdi.1
    have cdi0 : V15.cell? ⟨W14.heap.size, 0, none⟩ = some (.string rdn) := Row.cell_at rdi 0 rfl
    have cdi1 : V15.cell? ⟨W14.heap.size, 1, none⟩ = some (.string rdd) := Row.cell_at rdi 1 rfl
    refine (MUL _ (he.env.below hB)).mono ?_
    rintro e W16 ⟨rfl, h1⟩
    clear sb cb0 cb1 cb2 cb3
    clear sr cr0 cr1
    clear ss cs0 cs1
    clear sg cg0 cg1 cg2 cg3 cg4 cg5 cg6 cg7 cg8 cg9 cg10 cg11 cg12 cg13 cg14 cg15
    clear sh ch0 ch1 ch2 ch3
    clear ssu csu0 csu1
    clear sdi cdi0 cdi1
    replace hB := hB.trans (h1.mono hB.size)
    replace rb := Row.below rb h1
    replace rr := Row.below rr h1
    replace rs := Row.below rs h1
    replace rg := Row.below rg h1
    replace rh := Row.below rh h1
    replace rsu := Row.below rsu h1
    replace rdi := Row.below rdi h1
    clear h1
    have sb := rb.1
    have cb0 : W16.cell? ⟨W5.heap.size, 0, none⟩ = some (.string bln) := Row.cell_at rb 0 rfl
    have cb1 : W16.cell? ⟨W5.heap.size, 1, none⟩ = some (.string bld) := Row.cell_at rb 1 rfl
    have cb2 : W16.cell? ⟨W5.heap.size, 2, none⟩ = some (.string bhn) := Row.cell_at rb 2 rfl
    have cb3 : W16.cell? ⟨W5.heap.size, 3, none⟩ = some (.string bhd) := Row.cell_at rb 3 rfl
    have sr := rr.1
    have cr0 : W16.cell? ⟨W7.heap.size, 0, none⟩ = some (.string rn) := Row.cell_at rr 0 rfl
    have cr1 : W16.cell? ⟨W7.heap.size, 1, none⟩ = some (.string rd) := Row.cell_at rr 1 rfl
    have ss := rs.1
    have cs0 : W16.cell? ⟨W9.heap.size, 0, none⟩ = some (.string sn) := Row.cell_at rs 0 rfl
    have cs1 : W16.cell? ⟨W9.heap.size, 1, none⟩ = some (.string sd) := Row.cell_at rs 1 rfl
    have sg := rg.1
    have cg0 : W16.cell? ⟨g, 0, none⟩ = some (.string Aln) := Row.cell_take rg xg rfl
    have cg1 : W16.cell? ⟨g, 1, none⟩ = some (.string Ald) := Row.cell_take rg xg rfl
    have cg2 : W16.cell? ⟨g, 2, none⟩ = some (.string Ahn) := Row.cell_take rg xg rfl
    have cg3 : W16.cell? ⟨g, 3, none⟩ = some (.string Ahd) := Row.cell_take rg xg rfl
    have cg4 : W16.cell? ⟨g, 4, none⟩ = some (.string Dln) := Row.cell_take rg xg rfl
    have cg5 : W16.cell? ⟨g, 5, none⟩ = some (.string Dld) := Row.cell_take rg xg rfl
    have cg6 : W16.cell? ⟨g, 6, none⟩ = some (.string Dhn) := Row.cell_take rg xg rfl
    have cg7 : W16.cell? ⟨g, 7, none⟩ = some (.string Dhd) := Row.cell_take rg xg rfl
    have cg8 : W16.cell? ⟨g, 8, none⟩ = some (.string Mln) := Row.cell_take rg xg rfl
    have cg9 : W16.cell? ⟨g, 9, none⟩ = some (.string Mld) := Row.cell_take rg xg rfl
    have cg10 : W16.cell? ⟨g, 10, none⟩ = some (.string Mhn) := Row.cell_take rg xg rfl
    have cg11 : W16.cell? ⟨g, 11, none⟩ = some (.string Mhd) := Row.cell_take rg xg rfl
    have cg12 : W16.cell? ⟨g, 12, none⟩ = some (.string Vln) := Row.cell_take rg xg rfl
    have cg13 : W16.cell? ⟨g, 13, none⟩ = some (.string Vld) := Row.cell_take rg xg rfl
    have cg14 : W16.cell? ⟨g, 14, none⟩ = some (.string Vhn) := Row.cell_take rg xg rfl
    have cg15 : W16.cell? ⟨g, 15, none⟩ = some (.string Vhd) := Row.cell_take rg xg rfl
    have sh := rh.1
    have ch0 : W16.cell? ⟨h, 0, none⟩ = some (.int .i64 0) := Row.cell_take rh xh rfl
    have ch1 : W16.cell? ⟨h, 1, none⟩ = some (.int .i64 0) := Row.cell_take rh xh rfl
    have ch2 : W16.cell? ⟨h, 2, none⟩ = some (.int .i64 0) := Row.cell_take rh xh rfl
    have ch3 : W16.cell? ⟨h, 3, none⟩ = some (.int .i64 0) := Row.cell_take rh xh rfl
    have ssu := rsu.1
    have csu0 : W16.cell? ⟨W12.heap.size, 0, none⟩ = some (.string ran) := Row.cell_at rsu 0 rfl
    have csu1 : W16.cell? ⟨W12.heap.size, 1, none⟩ = some (.string rad) := Row.cell_at rsu 1 rfl
    have sdi := rdi.1
    have cdi0 : W16.cell? ⟨W14.heap.size, 0, none⟩ = some (.string rdn) := Row.cell_at rdi 0 rfl
    have cdi1 : W16.cell? ⟨W14.heap.size, 1, none⟩ = some (.string rdd) := Row.cell_at rdi 1 rfl
    go_wp2_with fail
    have sB := hB.size
    refine wp_cut (fun X => Below w.heap.size w X ∧ Row X W5.heap.size (.cells #[.string bln, .string bld, .string bhn, .string bhd] 29) ∧ Row X W7.heap.size (.cells #[.string rn, .string rd] 26) ∧ Row X W9.heap.size (.cells #[.string sn, .string sd] 26) ∧ Row X g (.cells gs 29) ∧ Row X h (.cells hs 31) ∧ Row X W12.heap.size (.cells #[.string ran, .string rad] 26) ∧ Row X W14.heap.size (.cells #[.string rdn, .string rdd] 26) ∧ Row X W16.heap.size (.cells #[.string rmn, .string rmd] 26)) ⟨(by repeat (first | (with_reducible exact hB) | (with_reducible exact Below.refl _ _) | (with_reducible refine Below.drew ?_) | (with_reducible refine below_drewN ?_ _) | (with_reducible refine Below.alloc ?_ (by first | omega | (simp; done) | (simp; omega)) _) | (with_reducible refine Below.setCell ?_ (by first | omega | (simp; done) | (simp; omega)) _))), (by repeat (first | (with_reducible exact rb) | (with_reducible exact row_new' (by first | omega | (simp; done) | (simp; omega))) | (with_reducible refine Row.drew ?_) | (with_reducible refine Row.drewN ?_ _) | (with_reducible refine Row.alloc ?_ _) | (with_reducible apply Row.set4) | (with_reducible apply Row.set4a) | (with_reducible apply Row.set4b) | (with_reducible apply Row.set2) | (with_reducible apply Row.set1) | (with_reducible refine Row.set_other ?_ _ (by first | omega | (simp; done) | (simp; omega))))), (by repeat (first | (with_reducible exact rr) | (with_reducible exact row_new' (by first | omega | (simp; done) | (simp; omega))) | (with_reducible refine Row.drew ?_) | (with_reducible refine Row.drewN ?_ _) | (with_reducible refine Row.alloc ?_ _) | (with_reducible apply Row.set4) | (with_reducible apply Row.set4a) | (with_reducible apply Row.set4b) | (with_reducible apply Row.set2) | (with_reducible apply Row.set1) | (with_reducible refine Row.set_other ?_ _ (by first | omega | (simp; done) | (simp; omega))))), (by repeat (first | (with_reducible exact rs) | (with_reducible exact row_new' (by first | omega | (simp; done) | (simp; omega))) | (with_reducible refine Row.drew ?_) | (with_reducible refine Row.drewN ?_ _) | (with_reducible refine Row.alloc ?_ _) | (with_reducible apply Row.set4) | (with_reducible apply Row.set4a) | (with_reducible apply Row.set4b) | (with_reducible apply Row.set2) | (with_reducible apply Row.set1) | (with_reducible refine Row.set_other ?_ _ (by first | omega | (simp; done) | (simp; omega))))), (by repeat (first | (with_reducible exact rg) | (with_reducible exact row_new' (by first | omega | (simp; done) | (simp; omega))) | (with_reducible refine Row.drew ?_) | (with_reducible refine Row.drewN ?_ _) | (with_reducible refine Row.alloc ?_ _) | (with_reducible apply Row.set4) | (with_reducible apply Row.set4a) | (with_reducible apply Row.set4b) | (with_reducible apply Row.set2) | (with_reducible apply Row.set1) | (with_reducible refine Row.set_other ?_ _ (by first | omega | (simp; done) | (simp; omega))))), (by repeat (first | (with_reducible exact rh) | (with_reducible exact row_new' (by first | omega | (simp; done) | (simp; omega))) | (with_reducible refine Row.drew ?_) | (with_reducible refine Row.drewN ?_ _) | (with_reducible refine Row.alloc ?_ _) | (with_reducible apply Row.set4) | (with_reducible apply Row.set4a) | (with_reducible apply Row.set4b) | (with_reducible apply Row.set2) | (with_reducible apply Row.set1) | (with_reducible refine Row.set_other ?_ _ (by first | omega | (simp; done) | (simp; omega))))), (by repeat (first | (with_reducible exact rsu) | (with_reducible exact row_new' (by first | omega | (simp; done) | (simp; omega))) | (with_reducible refine Row.drew ?_) | (with_reducible refine Row.drewN ?_ _) | (with_reducible refine Row.alloc ?_ _) | (with_reducible apply Row.set4) | (with_reducible apply Row.set4a) | (with_reducible apply Row.set4b) | (with_reducible apply Row.set2) | (with_reducible apply Row.set1) | (with_reducible refine Row.set_other ?_ _ (by first | omega | (simp; done) | (simp; omega))))), (by repeat (first | (with_reducible exact rdi) | (with_reducible exact row_new' (by first | omega | (simp; done) | (simp; omega))) | (with_reducible refine Row.drew ?_) | (with_reducible refine Row.drewN ?_ _) | (with_reducible refine Row.alloc ?_ _) | (with_reducible apply Row.set4) | (with_reducible apply Row.set4a) | (with_reducible apply Row.set4b) | (with_reducible apply Row.set2) | (with_reducible apply Row.set1) | (with_reducible refine Row.set_other ?_ _ (by first | omega | (simp; done) | (simp; omega))))), (by repeat (first | (with_reducible exact row_new' (by first | omega | (simp; done) | (simp; omega))) | (with_reducible refine Row.drew ?_) | (with_reducible refine Row.drewN ?_ _) | (with_reducible refine Row.alloc ?_ _) | (with_reducible apply Row.set4) | (with_reducible apply Row.set4a) | (with_reducible apply Row.set4b) | (with_reducible apply Row.set2) | (with_reducible apply Row.set1) | (with_reducible refine Row.set_other ?_ _ (by first | omega | (simp; done) | (simp; omega)))))⟩ ?_
    clear rb
    clear sb cb0 cb1 cb2 cb3
    clear rr
    clear sr cr0 cr1
    clear rs
    clear ss cs0 cs1
    clear rg
    clear sg cg0 cg1 cg2 cg3 cg4 cg5 cg6 cg7 cg8 cg9 cg10 cg11 cg12 cg13 cg14 cg15
    clear rh
    clear sh ch0 ch1 ch2 ch3
    clear rsu
    clear ssu csu0 csu1
    clear rdi
    clear sdi cdi0 cdi1
    clear hB sB
    rintro V17 ⟨hB, rb, rr, rs, rg, rh, rsu, rdi, rpr⟩
    have sb := rb.1
    have cb0 : V17.cell? ⟨W5.heap.size, 0, none⟩ = some (.string bln) := Row.cell_at rb 0 rfl
    have cb1 : V17.cell? ⟨W5.heap.size, 1, none⟩ = some (.string bld) := Row.cell_at rb 1 rfl
    have cb2 : V17.cell? ⟨W5.heap.size, 2, none⟩ = some (.string bhn) := Row.cell_at rb 2 rfl
    have cb3 : V17.cell? ⟨W5.heap.size, 3, none⟩ = some (.string bhd) := Row.cell_at rb 3 rfl
    have sr := rr.1
    have cr0 : V17.cell? ⟨W7.heap.size, 0, none⟩ = some (.string rn) := Row.cell_at rr 0 rfl
    have cr1 : V17.cell? ⟨W7.heap.size, 1, none⟩ = some (.string rd) := Row.cell_at rr 1 rfl
    have ss := rs.1
    have cs0 : V17.cell? ⟨W9.heap.size, 0, none⟩ = some (.string sn) := Row.cell_at rs 0 rfl
    have cs1 : V17.cell? ⟨W9.heap.size, 1, none⟩ = some (.string sd) := Row.cell_at rs 1 rfl
    have sg := rg.1
    have cg0 : V17.cell? ⟨g, 0, none⟩ = some (.string Aln) := Row.cell_take rg xg rfl
    have cg1 : V17.cell? ⟨g, 1, none⟩ = some (.string Ald) := Row.cell_take rg xg rfl
    have cg2 : V17.cell? ⟨g, 2, none⟩ = some (.string Ahn) := Row.cell_take rg xg rfl
    have cg3 : V17.cell? ⟨g, 3, none⟩ = some (.string Ahd) := Row.cell_take rg xg rfl
    have cg4 : V17.cell? ⟨g, 4, none⟩ = some (.string Dln) := Row.cell_take rg xg rfl
    have cg5 : V17.cell? ⟨g, 5, none⟩ = some (.string Dld) := Row.cell_take rg xg rfl
    have cg6 : V17.cell? ⟨g, 6, none⟩ = some (.string Dhn) := Row.cell_take rg xg rfl
    have cg7 : V17.cell? ⟨g, 7, none⟩ = some (.string Dhd) := Row.cell_take rg xg rfl
    have cg8 : V17.cell? ⟨g, 8, none⟩ = some (.string Mln) := Row.cell_take rg xg rfl
    have cg9 : V17.cell? ⟨g, 9, none⟩ = some (.string Mld) := Row.cell_take rg xg rfl
    have cg10 : V17.cell? ⟨g, 10, none⟩ = some (.string Mhn) := Row.cell_take rg xg rfl
    have cg11 : V17.cell? ⟨g, 11, none⟩ = some (.string Mhd) := Row.cell_take rg xg rfl
    have cg12 : V17.cell? ⟨g, 12, none⟩ = some (.string Vln) := Row.cell_take rg xg rfl
    have cg13 : V17.cell? ⟨g, 13, none⟩ = some (.string Vld) := Row.cell_take rg xg rfl
    have cg14 : V17.cell? ⟨g, 14, none⟩ = some (.string Vhn) := Row.cell_take rg xg rfl
    have cg15 : V17.cell? ⟨g, 15, none⟩ = some (.string Vhd) := Row.cell_take rg xg rfl
    have sh := rh.1
    have ch0 : V17.cell? ⟨h, 0, none⟩ = some (.int .i64 0) := Row.cell_take rh xh rfl
    have ch1 : V17.cell? ⟨h, 1, none⟩ = some (.int .i64 0) := Row.cell_take rh xh rfl
    have ch2 : V17.cell? ⟨h, 2, none⟩ = some (.int .i64 0) := Row.cell_take rh xh rfl
    have ch3 : V17.cell? ⟨h, 3, none⟩ = some (.int .i64 0) := Row.cell_take rh xh rfl
    have ssu := rsu.1
    have csu0 : V17.cell? ⟨W12.heap.size, 0, none⟩ = some (.string ran) := Row.cell_at rsu 0 rfl
    have csu1 : V17.cell? ⟨W12.heap.size, 1, none⟩ = some (.string rad) := Row.cell_at rsu 1 rfl
    have sdi := rdi.1
    have cdi0 : V17.cell? ⟨W14.heap.size, 0, none⟩ = some (.string rdn) := Row.cell_at rdi 0 rfl
    have cdi1 : V17.cell? ⟨W14.heap.size, 1, none⟩ = some (.string rdd) := Row.cell_at rdi 1 rfl
    have spr := rpr.1
    have cpr0 : V17.cell? ⟨W16.heap.size, 0, none⟩ = some (.string rmn) := Row.cell_at rpr 0 rfl
    have cpr1 : V17.cell? ⟨W16.heap.size, 1, none⟩ = some (.string rmd) := Row.cell_at rpr 1 rfl
    clear sb cb0 cb1 cb2 cb3
    clear sr cr0 cr1
    clear ss cs0 cs1
    clear sg cg0 cg1 cg2 cg3 cg4 cg5 cg6 cg7 cg8 cg9 cg10 cg11 cg12 cg13 cg14 cg15
    clear sh ch0 ch1 ch2 ch3
    clear ssu csu0 csu1
    clear sdi cdi0 cdi1
    clear spr cpr0 cpr1
    have KK12 : ∀ X, Row X (g) (.cells gs 29) → Row X (W12.heap.size) (.cells #[.string ran, .string rad] 26) → Row X (W14.heap.size) (.cells #[.string rdn, .string rdd] 26) → Row X (W16.heap.size) (.cells #[.string rmn, .string rmd] 26) → (X.cell? ⟨g, 0, none⟩ = some (.string Aln) ∧ X.cell? ⟨g, 1, none⟩ = some (.string Ald) ∧ X.cell? ⟨g, 2, none⟩ = some (.string Ahn) ∧ X.cell? ⟨g, 3, none⟩ = some (.string Ahd) ∧ X.cell? ⟨W12.heap.size, 0, none⟩ = some (.string ran) ∧ X.cell? ⟨W12.heap.size, 1, none⟩ = some (.string rad) ∧ X.cell? ⟨g, 4, none⟩ = some (.string Dln) ∧ X.cell? ⟨g, 5, none⟩ = some (.string Dld) ∧ X.cell? ⟨g, 6, none⟩ = some (.string Dhn) ∧ X.cell? ⟨g, 7, none⟩ = some (.string Dhd) ∧ X.cell? ⟨W14.heap.size, 0, none⟩ = some (.string rdn) ∧ X.cell? ⟨W14.heap.size, 1, none⟩ = some (.string rdd) ∧ X.cell? ⟨g, 8, none⟩ = some (.string Mln) ∧ X.cell? ⟨g, 9, none⟩ = some (.string Mld) ∧ X.cell? ⟨g, 10, none⟩ = some (.string Mhn) ∧ X.cell? ⟨g, 11, none⟩ = some (.string Mhd) ∧ X.cell? ⟨W16.heap.size, 0, none⟩ = some (.string rmn) ∧ X.cell? ⟨W16.heap.size, 1, none⟩ = some (.string rmd)) := fun X hg hsu hdi hpr => ⟨Row.cell_take hg xg rfl, Row.cell_take hg xg rfl, Row.cell_take hg xg rfl, Row.cell_take hg xg rfl, Row.cell_at hsu 0 rfl, Row.cell_at hsu 1 rfl, Row.cell_take hg xg rfl, Row.cell_take hg xg rfl, Row.cell_take hg xg rfl, Row.cell_take hg xg rfl, Row.cell_at hdi 0 rfl, Row.cell_at hdi 1 rfl, Row.cell_take hg xg rfl, Row.cell_take hg xg rfl, Row.cell_take hg xg rfl, Row.cell_take hg xg rfl, Row.cell_at hpr 0 rfl, Row.cell_at hpr 1 rfl⟩
    go_region_held3 (fun X => X.cell? ⟨g, 0, none⟩ = some (.string Aln) ∧ X.cell? ⟨g, 1, none⟩ = some (.string Ald) ∧ X.cell? ⟨g, 2, none⟩ = some (.string Ahn) ∧ X.cell? ⟨g, 3, none⟩ = some (.string Ahd) ∧ X.cell? ⟨W12.heap.size, 0, none⟩ = some (.string ran) ∧ X.cell? ⟨W12.heap.size, 1, none⟩ = some (.string rad) ∧ X.cell? ⟨g, 4, none⟩ = some (.string Dln) ∧ X.cell? ⟨g, 5, none⟩ = some (.string Dld) ∧ X.cell? ⟨g, 6, none⟩ = some (.string Dhn) ∧ X.cell? ⟨g, 7, none⟩ = some (.string Dhd) ∧ X.cell? ⟨W14.heap.size, 0, none⟩ = some (.string rdn) ∧ X.cell? ⟨W14.heap.size, 1, none⟩ = some (.string rdd) ∧ X.cell? ⟨g, 8, none⟩ = some (.string Mln) ∧ X.cell? ⟨g, 9, none⟩ = some (.string Mld) ∧ X.cell? ⟨g, 10, none⟩ = some (.string Mhn) ∧ X.cell? ⟨g, 11, none⟩ = some (.string Mhd) ∧ X.cell? ⟨W16.heap.size, 0, none⟩ = some (.string rmn) ∧ X.cell? ⟨W16.heap.size, 1, none⟩ = some (.string rmd)) (first | exact KK12 _ (by repeat (first | (with_reducible exact rg) | (with_reducible exact row_new' (by first | omega | (simp; done) | (simp; omega))) | (with_reducible refine Row.drew ?_) | (with_reducible refine Row.drewN ?_ _) | (with_reducible refine Row.alloc ?_ _) | (with_reducible apply Row.set4) | (with_reducible apply Row.set4a) | (with_reducible apply Row.set4b) | (with_reducible apply Row.set2) | (with_reducible apply Row.set1) | (with_reducible refine Row.set_other ?_ _ (by first | omega | (simp; done) | (simp; omega))))) (by repeat (first | (with_reducible exact rsu) | (with_reducible exact row_new' (by first | omega | (simp; done) | (simp; omega))) | (with_reducible refine Row.drew ?_) | (with_reducible refine Row.drewN ?_ _) | (with_reducible refine Row.alloc ?_ _) | (with_reducible apply Row.set4) | (with_reducible apply Row.set4a) | (with_reducible apply Row.set4b) | (with_reducible apply Row.set2) | (with_reducible apply Row.set1) | (with_reducible refine Row.set_other ?_ _ (by first | omega | (simp; done) | (simp; omega))))) (by repeat (first | (with_reducible exact rdi) | (with_reducible exact row_new' (by first | omega | (simp; done) | (simp; omega))) | (with_reducible refine Row.drew ?_) | (with_reducible refine Row.drewN ?_ _) | (with_reducible refine Row.alloc ?_ _) | (with_reducible apply Row.set4) | (with_reducible apply Row.set4a) | (with_reducible apply Row.set4b) | (with_reducible apply Row.set2) | (with_reducible apply Row.set1) | (with_reducible refine Row.set_other ?_ _ (by first | omega | (simp; done) | (simp; omega))))) (by repeat (first | (with_reducible exact rpr) | (with_reducible exact row_new' (by first | omega | (simp; done) | (simp; omega))) | (with_reducible refine Row.drew ?_) | (with_reducible refine Row.drewN ?_ _) | (with_reducible refine Row.alloc ?_ _) | (with_reducible apply Row.set4) | (with_reducible apply Row.set4a) | (with_reducible apply Row.set4b) | (with_reducible apply Row.set2) | (with_reducible apply Row.set1) | (with_reducible refine Row.set_other ?_ _ (by first | omega | (simp; done) | (simp; omega)))))) (first
        | (go_at_call 22; with_reducible refine (C0 _ (by first | exact he.env.below hB | exact he.env.below hB.drew | exact he.env.below (below_drewN hB _))).mono ?_; rintro e W ⟨rfl, h1⟩; (try replace h1 := below_of_drew h1); replace hB := hB.trans (h1.mono hB.size); replace rb := Row.below rb h1; replace rr := Row.below rr h1; replace rs := Row.below rs h1; replace rg := Row.below rg h1; replace rh := Row.below rh h1; replace rsu := Row.below rsu h1; replace rdi := Row.below rdi h1; replace rpr := Row.below rpr h1)
        | (go_at_call 22; with_reducible refine (C1 _ (by first | exact he.env.below hB | exact he.env.below hB.drew | exact he.env.below (below_drewN hB _))).mono ?_; rintro e W ⟨rfl, h1⟩; (try replace h1 := below_of_drew h1); replace hB := hB.trans (h1.mono hB.size); replace rb := Row.below rb h1; replace rr := Row.below rr h1; replace rs := Row.below rs h1; replace rg := Row.below rg h1; replace rh := Row.below rh h1; replace rsu := Row.below rsu h1; replace rdi := Row.below rdi h1; replace rpr := Row.below rpr h1)
        | (go_at_call 22; with_reducible refine (C2 _ (by first | exact he.env.below hB | exact he.env.below hB.drew | exact he.env.below (below_drewN hB _))).mono ?_; rintro e W ⟨rfl, h1⟩; (try replace h1 := below_of_drew h1); replace hB := hB.trans (h1.mono hB.size); replace rb := Row.below rb h1; replace rr := Row.below rr h1; replace rs := Row.below rs h1; replace rg := Row.below rg h1; replace rh := Row.below rh h1; replace rsu := Row.below rsu h1; replace rdi := Row.below rdi h1; replace rpr := Row.below rpr h1))
    clear KK12
    have sb := rb.1
    have cb0 : W.cell? ⟨W5.heap.size, 0, none⟩ = some (.string bln) := Row.cell_at rb 0 rfl
    have cb1 : W.cell? ⟨W5.heap.size, 1, none⟩ = some (.string bld) := Row.cell_at rb 1 rfl
    have cb2 : W.cell? ⟨W5.heap.size, 2, none⟩ = some (.string bhn) := Row.cell_at rb 2 rfl
    have cb3 : W.cell? ⟨W5.heap.size, 3, none⟩ = some (.string bhd) := Row.cell_at rb 3 rfl
    have sr := rr.1
    have cr0 : W.cell? ⟨W7.heap.size, 0, none⟩ = some (.string rn) := Row.cell_at rr 0 rfl
    have cr1 : W.cell? ⟨W7.heap.size, 1, none⟩ = some (.string rd) := Row.cell_at rr 1 rfl
    have ss := rs.1
    have cs0 : W.cell? ⟨W9.heap.size, 0, none⟩ = some (.string sn) := Row.cell_at rs 0 rfl
    have cs1 : W.cell? ⟨W9.heap.size, 1, none⟩ = some (.string sd) := Row.cell_at rs 1 rfl
    have sg := rg.1
    have cg0 : W.cell? ⟨g, 0, none⟩ = some (.string Aln) := Row.cell_take rg xg rfl
    have cg1 : W.cell? ⟨g, 1, none⟩ = some (.string Ald) := Row.cell_take rg xg rfl
    have cg2 : W.cell? ⟨g, 2, none⟩ = some (.string Ahn) := Row.cell_take rg xg rfl
    have cg3 : W.cell? ⟨g, 3, none⟩ = some (.string Ahd) := Row.cell_take rg xg rfl
    have cg4 : W.cell? ⟨g, 4, none⟩ = some (.string Dln) := Row.cell_take rg xg rfl
    have cg5 : W.cell? ⟨g, 5, none⟩ = some (.string Dld) := Row.cell_take rg xg rfl
    have cg6 : W.cell? ⟨g, 6, none⟩ = some (.string Dhn) := Row.cell_take rg xg rfl
    have cg7 : W.cell? ⟨g, 7, none⟩ = some (.string Dhd) := Row.cell_take rg xg rfl
    have cg8 : W.cell? ⟨g, 8, none⟩ = some (.string Mln) := Row.cell_take rg xg rfl
    have cg9 : W.cell? ⟨g, 9, none⟩ = some (.string Mld) := Row.cell_take rg xg rfl
    have cg10 : W.cell? ⟨g, 10, none⟩ = some (.string Mhn) := Row.cell_take rg xg rfl
    have cg11 : W.cell? ⟨g, 11, none⟩ = some (.string Mhd) := Row.cell_take rg xg rfl
    have cg12 : W.cell? ⟨g, 12, none⟩ = some (.string Vln) := Row.cell_take rg xg rfl
    have cg13 : W.cell? ⟨g, 13, none⟩ = some (.string Vld) := Row.cell_take rg xg rfl
    have cg14 : W.cell? ⟨g, 14, none⟩ = some (.string Vhn) := Row.cell_take rg xg rfl
    have cg15 : W.cell? ⟨g, 15, none⟩ = some (.string Vhd) := Row.cell_take rg xg rfl
    have sh := rh.1
    have ch0 : W.cell? ⟨h, 0, none⟩ = some (.int .i64 0) := Row.cell_take rh xh rfl
    have ch1 : W.cell? ⟨h, 1, none⟩ = some (.int .i64 0) := Row.cell_take rh xh rfl
    have ch2 : W.cell? ⟨h, 2, none⟩ = some (.int .i64 0) := Row.cell_take rh xh rfl
    have ch3 : W.cell? ⟨h, 3, none⟩ = some (.int .i64 0) := Row.cell_take rh xh rfl
    have ssu := rsu.1
    have csu0 : W.cell? ⟨W12.heap.size, 0, none⟩ = some (.string ran) := Row.cell_at rsu 0 rfl
    have csu1 : W.cell? ⟨W12.heap.size, 1, none⟩ = some (.string rad) := Row.cell_at rsu 1 rfl
    have sdi := rdi.1
    have cdi0 : W.cell? ⟨W14.heap.size, 0, none⟩ = some (.string rdn) := Row.cell_at rdi 0 rfl
    have cdi1 : W.cell? ⟨W14.heap.size, 1, none⟩ = some (.string rdd) := Row.cell_at rdi 1 rfl
    have spr := rpr.1
    have cpr0 : W.cell? ⟨W16.heap.size, 0, none⟩ = some (.string rmn) := Row.cell_at rpr 0 rfl
    have cpr1 : W.cell? ⟨W16.heap.size, 1, none⟩ = some (.string rmd) := Row.cell_at rpr 1 rfl
    go_wp2_with fail
    clear rsu
    clear ssu csu0 csu1
    clear rdi
    clear sdi cdi0 cdi1
    clear rpr
    clear spr cpr0 cpr1
    clear sb cb0 cb1 cb2 cb3
    clear sr cr0 cr1
    clear ss cs0 cs1
    clear sg cg0 cg1 cg2 cg3 cg4 cg5 cg6 cg7 cg8 cg9 cg10 cg11 cg12 cg13 cg14 cg15
    clear sh ch0 ch1 ch2 ch3
    have KK14 : ∀ X, Row X (W5.heap.size) (.cells #[.string bln, .string bld, .string bhn, .string bhd] 29) → (X.cell? ⟨W5.heap.size, 0, none⟩ = some (.string bln) ∧ X.cell? ⟨W5.heap.size, 1, none⟩ = some (.string bld) ∧ X.cell? ⟨W5.heap.size, 2, none⟩ = some (.string bhn) ∧ X.cell? ⟨W5.heap.size, 3, none⟩ = some (.string bhd)) := fun X hb => ⟨Row.cell_at hb 0 rfl, Row.cell_at hb 1 rfl, Row.cell_at hb 2 rfl, Row.cell_at hb 3 rfl⟩
    go_region_held3 (fun X => X.cell? ⟨W5.heap.size, 0, none⟩ = some (.string bln) ∧ X.cell? ⟨W5.heap.size, 1, none⟩ = some (.string bld) ∧ X.cell? ⟨W5.heap.size, 2, none⟩ = some (.string bhn) ∧ X.cell? ⟨W5.heap.size, 3, none⟩ = some (.string bhd)) (first | exact KK14 _ (by repeat (first | (with_reducible exact rb) | (with_reducible exact row_new' (by first | omega | (simp; done) | (simp; omega))) | (with_reducible refine Row.drew ?_) | (with_reducible refine Row.drewN ?_ _) | (with_reducible refine Row.alloc ?_ _) | (with_reducible apply Row.set4) | (with_reducible apply Row.set4a) | (with_reducible apply Row.set4b) | (with_reducible apply Row.set2) | (with_reducible apply Row.set1) | (with_reducible refine Row.set_other ?_ _ (by first | omega | (simp; done) | (simp; omega)))))) (first
        | (go_at_call 15; with_reducible refine (R0 _).mono ?_; rintro e W ⟨rfl, h1⟩; (try replace h1 := below_of_drew h1); replace hB := hB.trans (h1.mono hB.size); replace rb := Row.below rb h1; replace rr := Row.below rr h1; replace rs := Row.below rs h1; replace rg := Row.below rg h1; replace rh := Row.below rh h1)
        | (go_at_call 22; with_reducible refine (CB _ (by first | exact he.env.below hB | exact he.env.below hB.drew | exact he.env.below (below_drewN hB _))).mono ?_; rintro e W ⟨rfl, h1⟩; (try replace h1 := below_of_drew h1); replace hB := hB.trans (h1.mono hB.size); replace rb := Row.below rb h1; replace rr := Row.below rr h1; replace rs := Row.below rs h1; replace rg := Row.below rg h1; replace rh := Row.below rh h1))
    clear KK14
    have sb := rb.1
    have cb0 : W.cell? ⟨W5.heap.size, 0, none⟩ = some (.string bln) := Row.cell_at rb 0 rfl
    have cb1 : W.cell? ⟨W5.heap.size, 1, none⟩ = some (.string bld) := Row.cell_at rb 1 rfl
    have cb2 : W.cell? ⟨W5.heap.size, 2, none⟩ = some (.string bhn) := Row.cell_at rb 2 rfl
    have cb3 : W.cell? ⟨W5.heap.size, 3, none⟩ = some (.string bhd) := Row.cell_at rb 3 rfl
    have sr := rr.1
    have cr0 : W.cell? ⟨W7.heap.size, 0, none⟩ = some (.string rn) := Row.cell_at rr 0 rfl
    have cr1 : W.cell? ⟨W7.heap.size, 1, none⟩ = some (.string rd) := Row.cell_at rr 1 rfl
    have ss := rs.1
    have cs0 : W.cell? ⟨W9.heap.size, 0, none⟩ = some (.string sn) := Row.cell_at rs 0 rfl
    have cs1 : W.cell? ⟨W9.heap.size, 1, none⟩ = some (.string sd) := Row.cell_at rs 1 rfl
    have sg := rg.1
    have cg0 : W.cell? ⟨g, 0, none⟩ = some (.string Aln) := Row.cell_take rg xg rfl
    have cg1 : W.cell? ⟨g, 1, none⟩ = some (.string Ald) := Row.cell_take rg xg rfl
    have cg2 : W.cell? ⟨g, 2, none⟩ = some (.string Ahn) := Row.cell_take rg xg rfl
    have cg3 : W.cell? ⟨g, 3, none⟩ = some (.string Ahd) := Row.cell_take rg xg rfl
    have cg4 : W.cell? ⟨g, 4, none⟩ = some (.string Dln) := Row.cell_take rg xg rfl
    have cg5 : W.cell? ⟨g, 5, none⟩ = some (.string Dld) := Row.cell_take rg xg rfl
    have cg6 : W.cell? ⟨g, 6, none⟩ = some (.string Dhn) := Row.cell_take rg xg rfl
    have cg7 : W.cell? ⟨g, 7, none⟩ = some (.string Dhd) := Row.cell_take rg xg rfl
    have cg8 : W.cell? ⟨g, 8, none⟩ = some (.string Mln) := Row.cell_take rg xg rfl
    have cg9 : W.cell? ⟨g, 9, none⟩ = some (.string Mld) := Row.cell_take rg xg rfl
    have cg10 : W.cell? ⟨g, 10, none⟩ = some (.string Mhn) := Row.cell_take rg xg rfl
    have cg11 : W.cell? ⟨g, 11, none⟩ = some (.string Mhd) := Row.cell_take rg xg rfl
    have cg12 : W.cell? ⟨g, 12, none⟩ = some (.string Vln) := Row.cell_take rg xg rfl
    have cg13 : W.cell? ⟨g, 13, none⟩ = some (.string Vld) := Row.cell_take rg xg rfl
    have cg14 : W.cell? ⟨g, 14, none⟩ = some (.string Vhn) := Row.cell_take rg xg rfl
    have cg15 : W.cell? ⟨g, 15, none⟩ = some (.string Vhd) := Row.cell_take rg xg rfl
    have sh := rh.1
    have ch0 : W.cell? ⟨h, 0, none⟩ = some (.int .i64 0) := Row.cell_take rh xh rfl
    have ch1 : W.cell? ⟨h, 1, none⟩ = some (.int .i64 0) := Row.cell_take rh xh rfl
    have ch2 : W.cell? ⟨h, 2, none⟩ = some (.int .i64 0) := Row.cell_take rh xh rfl
    have ch3 : W.cell? ⟨h, 3, none⟩ = some (.int .i64 0) := Row.cell_take rh xh rfl
    go_wp2_with fail
    clear rb
    clear sb cb0 cb1 cb2 cb3
    clear rr
    clear sr cr0 cr1
    clear rs
    clear ss cs0 cs1
    refine (DIV _ (he.env.below hB)).mono ?_
    rintro e W18 ⟨rfl, h1⟩
    clear sg cg0 cg1 cg2 cg3 cg4 cg5 cg6 cg7 cg8 cg9 cg10 cg11 cg12 cg13 cg14 cg15
    clear sh ch0 ch1 ch2 ch3
    replace hB := hB.trans (h1.mono hB.size)
    replace rg := Row.below rg h1
    replace rh := Row.below rh h1
    clear h1
    have sg := rg.1
    have cg0 : W18.cell? ⟨g, 0, none⟩ = some (.string Aln) := Row.cell_take rg xg rfl
    have cg1 : W18.cell? ⟨g, 1, none⟩ = some (.string Ald) := Row.cell_take rg xg rfl
    have cg2 : W18.cell? ⟨g, 2, none⟩ = some (.string Ahn) := Row.cell_take rg xg rfl
    have cg3 : W18.cell? ⟨g, 3, none⟩ = some (.string Ahd) := Row.cell_take rg xg rfl
    have cg4 : W18.cell? ⟨g, 4, none⟩ = some (.string Dln) := Row.cell_take rg xg rfl
    have cg5 : W18.cell? ⟨g, 5, none⟩ = some (.string Dld) := Row.cell_take rg xg rfl
    have cg6 : W18.cell? ⟨g, 6, none⟩ = some (.string Dhn) := Row.cell_take rg xg rfl
    have cg7 : W18.cell? ⟨g, 7, none⟩ = some (.string Dhd) := Row.cell_take rg xg rfl
    have cg8 : W18.cell? ⟨g, 8, none⟩ = some (.string Mln) := Row.cell_take rg xg rfl
    have cg9 : W18.cell? ⟨g, 9, none⟩ = some (.string Mld) := Row.cell_take rg xg rfl
    have cg10 : W18.cell? ⟨g, 10, none⟩ = some (.string Mhn) := Row.cell_take rg xg rfl
    have cg11 : W18.cell? ⟨g, 11, none⟩ = some (.string Mhd) := Row.cell_take rg xg rfl
    have cg12 : W18.cell? ⟨g, 12, none⟩ = some (.string Vln) := Row.cell_take rg xg rfl
    have cg13 : W18.cell? ⟨g, 13, none⟩ = some (.string Vld) := Row.cell_take rg xg rfl
    have cg14 : W18.cell? ⟨g, 14, none⟩ = some (.string Vhn) := Row.cell_take rg xg rfl
    have cg15 : W18.cell? ⟨g, 15, none⟩ = some (.string Vhd) := Row.cell_take rg xg rfl
    have sh := rh.1
    have ch0 : W18.cell? ⟨h, 0, none⟩ = some (.int .i64 0) := Row.cell_take rh xh rfl
    have ch1 : W18.cell? ⟨h, 1, none⟩ = some (.int .i64 0) := Row.cell_take rh xh rfl
    have ch2 : W18.cell? ⟨h, 2, none⟩ = some (.int .i64 0) := Row.cell_take rh xh rfl
    have ch3 : W18.cell? ⟨h, 3, none⟩ = some (.int .i64 0) := Row.cell_take rh xh rfl
    go_wp2_with fail
    have sB := hB.size
    refine wp_cut (fun X => Below w.heap.size w X ∧ Row X g (.cells gs 29) ∧ Row X h (.cells hs 31) ∧ Row X W18.heap.size (.cells #[.string rvn, .string rvd] 26)) ⟨(by repeat (first | (with_reducible exact hB) | (with_reducible exact Below.refl _ _) | (with_reducible refine Below.drew ?_) | (with_reducible refine below_drewN ?_ _) | (with_reducible refine Below.alloc ?_ (by first | omega | (simp; done) | (simp; omega)) _) | (with_reducible refine Below.setCell ?_ (by first | omega | (simp; done) | (simp; omega)) _))), (by repeat (first | (with_reducible exact rg) | (with_reducible exact row_new' (by first | omega | (simp; done) | (simp; omega))) | (with_reducible refine Row.drew ?_) | (with_reducible refine Row.drewN ?_ _) | (with_reducible refine Row.alloc ?_ _) | (with_reducible apply Row.set4) | (with_reducible apply Row.set4a) | (with_reducible apply Row.set4b) | (with_reducible apply Row.set2) | (with_reducible apply Row.set1) | (with_reducible refine Row.set_other ?_ _ (by first | omega | (simp; done) | (simp; omega))))), (by repeat (first | (with_reducible exact rh) | (with_reducible exact row_new' (by first | omega | (simp; done) | (simp; omega))) | (with_reducible refine Row.drew ?_) | (with_reducible refine Row.drewN ?_ _) | (with_reducible refine Row.alloc ?_ _) | (with_reducible apply Row.set4) | (with_reducible apply Row.set4a) | (with_reducible apply Row.set4b) | (with_reducible apply Row.set2) | (with_reducible apply Row.set1) | (with_reducible refine Row.set_other ?_ _ (by first | omega | (simp; done) | (simp; omega))))), (by repeat (first | (with_reducible exact row_new' (by first | omega | (simp; done) | (simp; omega))) | (with_reducible refine Row.drew ?_) | (with_reducible refine Row.drewN ?_ _) | (with_reducible refine Row.alloc ?_ _) | (with_reducible apply Row.set4) | (with_reducible apply Row.set4a) | (with_reducible apply Row.set4b) | (with_reducible apply Row.set2) | (with_reducible apply Row.set1) | (with_reducible refine Row.set_other ?_ _ (by first | omega | (simp; done) | (simp; omega)))))⟩ ?_
    clear rg
    clear sg cg0 cg1 cg2 cg3 cg4 cg5 cg6 cg7 cg8 cg9 cg10 cg11 cg12 cg13 cg14 cg15
    clear rh
    clear sh ch0 ch1 ch2 ch3
    clear hB sB
    rintro V19 ⟨hB, rg, rh, rqu⟩
    have sg := rg.1
    have cg0 : V19.cell? ⟨g, 0, none⟩ = some (.string Aln) := Row.cell_take rg xg rfl
    have cg1 : V19.cell? ⟨g, 1, none⟩ = some (.string Ald) := Row.cell_take rg xg rfl
    have cg2 : V19.cell? ⟨g, 2, none⟩ = some (.string Ahn) := Row.cell_take rg xg rfl
    have cg3 : V19.cell? ⟨g, 3, none⟩ = some (.string Ahd) := Row.cell_take rg xg rfl
    have cg4 : V19.cell? ⟨g, 4, none⟩ = some (.string Dln) := Row.cell_take rg xg rfl
    have cg5 : V19.cell? ⟨g, 5, none⟩ = some (.string Dld) := Row.cell_take rg xg rfl
    have cg6 : V19.cell? ⟨g, 6, none⟩ = some (.string Dhn) := Row.cell_take rg xg rfl
    have cg7 : V19.cell? ⟨g, 7, none⟩ = some (.string Dhd) := Row.cell_take rg xg rfl
    have cg8 : V19.cell? ⟨g, 8, none⟩ = some (.string Mln) := Row.cell_take rg xg rfl
    have cg9 : V19.cell? ⟨g, 9, none⟩ = some (.string Mld) := Row.cell_take rg xg rfl
    have cg10 : V19.cell? ⟨g, 10, none⟩ = some (.string Mhn) := Row.cell_take rg xg rfl
    have cg11 : V19.cell? ⟨g, 11, none⟩ = some (.string Mhd) := Row.cell_take rg xg rfl
    have cg12 : V19.cell? ⟨g, 12, none⟩ = some (.string Vln) := Row.cell_take rg xg rfl
    have cg13 : V19.cell? ⟨g, 13, none⟩ = some (.string Vld) := Row.cell_take rg xg rfl
    have cg14 : V19.cell? ⟨g, 14, none⟩ = some (.string Vhn) := Row.cell_take rg xg rfl
    have cg15 : V19.cell? ⟨g, 15, none⟩ = some (.string Vhd) := Row.cell_take rg xg rfl
    have sh := rh.1
    have ch0 : V19.cell? ⟨h, 0, none⟩ = some (.int .i64 0) := Row.cell_take rh xh rfl
    have ch1 : V19.cell? ⟨h, 1, none⟩ = some (.int .i64 0) := Row.cell_take rh xh rfl
    have ch2 : V19.cell? ⟨h, 2, none⟩ = some (.int .i64 0) := Row.cell_take rh xh rfl
    have ch3 : V19.cell? ⟨h, 3, none⟩ = some (.int .i64 0) := Row.cell_take rh xh rfl
    have squ := rqu.1
    have cqu0 : V19.cell? ⟨W18.heap.size, 0, none⟩ = some (.string rvn) := Row.cell_at rqu 0 rfl
    have cqu1 : V19.cell? ⟨W18.heap.size, 1, none⟩ = some (.string rvd) := Row.cell_at rqu 1 rfl
    clear sg cg0 cg1 cg2 cg3 cg4 cg5 cg6 cg7 cg8 cg9 cg10 cg11 cg12 cg13 cg14 cg15
    clear sh ch0 ch1 ch2 ch3
    clear squ cqu0 cqu1
    have KK17 : ∀ X, Row X (h) (.cells hs 31) → Row X (g) (.cells gs 29) → Row X (W18.heap.size) (.cells #[.string rvn, .string rvd] 26) → (X.cell? ⟨h, 3, none⟩ = some (.int .i64 0) ∧ X.cell? ⟨g, 12, none⟩ = some (.string Vln) ∧ X.cell? ⟨g, 13, none⟩ = some (.string Vld) ∧ X.cell? ⟨g, 14, none⟩ = some (.string Vhn) ∧ X.cell? ⟨g, 15, none⟩ = some (.string Vhd) ∧ X.cell? ⟨W18.heap.size, 0, none⟩ = some (.string rvn) ∧ X.cell? ⟨W18.heap.size, 1, none⟩ = some (.string rvd)) := fun X hh hg hqu => ⟨Row.cell_take hh xh rfl, Row.cell_take hg xg rfl, Row.cell_take hg xg rfl, Row.cell_take hg xg rfl, Row.cell_take hg xg rfl, Row.cell_at hqu 0 rfl, Row.cell_at hqu 1 rfl⟩
    go_region_held3 (fun X => X.cell? ⟨h, 3, none⟩ = some (.int .i64 0) ∧ X.cell? ⟨g, 12, none⟩ = some (.string Vln) ∧ X.cell? ⟨g, 13, none⟩ = some (.string Vld) ∧ X.cell? ⟨g, 14, none⟩ = some (.string Vhn) ∧ X.cell? ⟨g, 15, none⟩ = some (.string Vhd) ∧ X.cell? ⟨W18.heap.size, 0, none⟩ = some (.string rvn) ∧ X.cell? ⟨W18.heap.size, 1, none⟩ = some (.string rvd)) (first | exact KK17 _ (by repeat (first | (with_reducible exact rh) | (with_reducible exact row_new' (by first | omega | (simp; done) | (simp; omega))) | (with_reducible refine Row.drew ?_) | (with_reducible refine Row.drewN ?_ _) | (with_reducible refine Row.alloc ?_ _) | (with_reducible apply Row.set4) | (with_reducible apply Row.set4a) | (with_reducible apply Row.set4b) | (with_reducible apply Row.set2) | (with_reducible apply Row.set1) | (with_reducible refine Row.set_other ?_ _ (by first | omega | (simp; done) | (simp; omega))))) (by repeat (first | (with_reducible exact rg) | (with_reducible exact row_new' (by first | omega | (simp; done) | (simp; omega))) | (with_reducible refine Row.drew ?_) | (with_reducible refine Row.drewN ?_ _) | (with_reducible refine Row.alloc ?_ _) | (with_reducible apply Row.set4) | (with_reducible apply Row.set4a) | (with_reducible apply Row.set4b) | (with_reducible apply Row.set2) | (with_reducible apply Row.set1) | (with_reducible refine Row.set_other ?_ _ (by first | omega | (simp; done) | (simp; omega))))) (by repeat (first | (with_reducible exact rqu) | (with_reducible exact row_new' (by first | omega | (simp; done) | (simp; omega))) | (with_reducible refine Row.drew ?_) | (with_reducible refine Row.drewN ?_ _) | (with_reducible refine Row.alloc ?_ _) | (with_reducible apply Row.set4) | (with_reducible apply Row.set4a) | (with_reducible apply Row.set4b) | (with_reducible apply Row.set2) | (with_reducible apply Row.set1) | (with_reducible refine Row.set_other ?_ _ (by first | omega | (simp; done) | (simp; omega)))))) (first
        | (go_at_call 22; with_reducible refine (C3 _ (by first | exact he.env.below hB | exact he.env.below hB.drew | exact he.env.below (below_drewN hB _))).mono ?_; rintro e W ⟨rfl, h1⟩; (try replace h1 := below_of_drew h1); replace hB := hB.trans (h1.mono hB.size); replace rg := Row.below rg h1; replace rh := Row.below rh h1; replace rqu := Row.below rqu h1))
    clear KK17
    have sg := rg.1
    have cg0 : W.cell? ⟨g, 0, none⟩ = some (.string Aln) := Row.cell_take rg xg rfl
    have cg1 : W.cell? ⟨g, 1, none⟩ = some (.string Ald) := Row.cell_take rg xg rfl
    have cg2 : W.cell? ⟨g, 2, none⟩ = some (.string Ahn) := Row.cell_take rg xg rfl
    have cg3 : W.cell? ⟨g, 3, none⟩ = some (.string Ahd) := Row.cell_take rg xg rfl
    have cg4 : W.cell? ⟨g, 4, none⟩ = some (.string Dln) := Row.cell_take rg xg rfl
    have cg5 : W.cell? ⟨g, 5, none⟩ = some (.string Dld) := Row.cell_take rg xg rfl
    have cg6 : W.cell? ⟨g, 6, none⟩ = some (.string Dhn) := Row.cell_take rg xg rfl
    have cg7 : W.cell? ⟨g, 7, none⟩ = some (.string Dhd) := Row.cell_take rg xg rfl
    have cg8 : W.cell? ⟨g, 8, none⟩ = some (.string Mln) := Row.cell_take rg xg rfl
    have cg9 : W.cell? ⟨g, 9, none⟩ = some (.string Mld) := Row.cell_take rg xg rfl
    have cg10 : W.cell? ⟨g, 10, none⟩ = some (.string Mhn) := Row.cell_take rg xg rfl
    have cg11 : W.cell? ⟨g, 11, none⟩ = some (.string Mhd) := Row.cell_take rg xg rfl
    have cg12 : W.cell? ⟨g, 12, none⟩ = some (.string Vln) := Row.cell_take rg xg rfl
    have cg13 : W.cell? ⟨g, 13, none⟩ = some (.string Vld) := Row.cell_take rg xg rfl
    have cg14 : W.cell? ⟨g, 14, none⟩ = some (.string Vhn) := Row.cell_take rg xg rfl
    have cg15 : W.cell? ⟨g, 15, none⟩ = some (.string Vhd) := Row.cell_take rg xg rfl
    have sh := rh.1
    have ch0 : W.cell? ⟨h, 0, none⟩ = some (.int .i64 0) := Row.cell_take rh xh rfl
    have ch1 : W.cell? ⟨h, 1, none⟩ = some (.int .i64 0) := Row.cell_take rh xh rfl
    have ch2 : W.cell? ⟨h, 2, none⟩ = some (.int .i64 0) := Row.cell_take rh xh rfl
    have ch3 : W.cell? ⟨h, 3, none⟩ = some (.int .i64 0) := Row.cell_take rh xh rfl
    have squ := rqu.1
    have cqu0 : W.cell? ⟨W18.heap.size, 0, none⟩ = some (.string rvn) := Row.cell_at rqu 0 rfl
    have cqu1 : W.cell? ⟨W18.heap.size, 1, none⟩ = some (.string rvd) := Row.cell_at rqu 1 rfl
    go_wp2
    go_ret
    exact ⟨rfl, hB⟩
  · have CALLS : ∀ W, EnvE a0 W → Calls Tryz.prog 27 #[.agg #[.string (S a.lo.num), .string (S (a.lo.den : Int)), .string (S a.hi.num), .string (S (a.hi.den : Int))], .agg #[.string (S b.lo.num), .string (S (b.lo.den : Int)), .string (S b.hi.num), .string (S (b.hi.den : Int))], .int .i64 3] W (fun e w' => ∃ (zs us : List Value) (g gc : Nat) (gs : Array Value) (h hc : Nat) (hs : Array Value), e = .returned (.tuple #[.slice (some ⟨g, 0, none⟩) 8 gc, .slice (some ⟨h, 0, none⟩) 8 hc]) ∧ Row w' g (.cells gs 29) ∧ Row w' h (.cells hs 31) ∧ gs.toList.take 32 = .string (S (addI a b).lo.num) :: .string (S ((addI a b).lo.den : Int)) :: .string (S (addI a b).hi.num) :: .string (S ((addI a b).hi.den : Int)) :: .string (S (subI a b).lo.num) :: .string (S ((subI a b).lo.den : Int)) :: .string (S (subI a b).hi.num) :: .string (S ((subI a b).hi.den : Int)) :: .string (S (mulI a b).lo.num) :: .string (S ((mulI a b).lo.den : Int)) :: .string (S (mulI a b).hi.num) :: .string (S ((mulI a b).hi.den : Int)) :: zs ∧ hs.toList.take 8 = .int .i64 0 :: .int .i64 0 :: .int .i64 0 :: .int .i64 50 :: us ∧ Below W.heap.size W w') := by
      intro W h
      refine (ecalls 3 da db oa ob (by omega) (by omega) (by omega) W h).mono ?_
      intro e w' he'
      obtain ⟨f, g, gc, gs, h, hc, hs, hf, rfl, hg, hh, rg, rh, xg, xh, hb⟩ := callsOk.open he'
      have e0 : f 0 = some (addI a b) := hf 0 (by omega)
      have e1 : f 1 = some (subI a b) := hf 1 (by omega)
      have e2 : f 2 = some (mulI a b) := hf 2 (by omega)
      have e3 : f 3 = none := ((hf 3 (by omega)).resolve_left (fun h => hfr h.1)).2
      rw [e0, e1, e2, e3] at xg xh
      exact ⟨_, _, g, gc, gs, h, hc, hs, rfl, rg, rh, xg, xh, hb⟩
    have ADD := fun W (h : Env W) => qadd dr ds (by omega) W h
    have SUB := fun W (h : Env W) => qsub dr ds (by omega) W h
    have MUL := fun W (h : Env W) => qmul dr ds (by omega) W h
    have C0 := fun W (h : Env W) => econtains (addI a b) (r + s) ((addI_dig da db).mono (by omega)) ((dr.add ds).mono (by omega)) W h
    rw [decide_eq_true (show (addI a b).lo ≤ r + s ∧ r + s ≤ (addI a b).hi from addI_has hr hs)] at C0
    have C1 := fun W (h : Env W) => econtains (subI a b) (r - s) ((subI_dig da db).mono (by omega)) ((dr.sub ds).mono (by omega)) W h
    rw [decide_eq_true (show (subI a b).lo ≤ r - s ∧ r - s ≤ (subI a b).hi from subI_has hr hs)] at C1
    have C2 := fun W (h : Env W) => econtains (mulI a b) (r * s) ((mulI_dig da db).mono (by omega)) ((dr.mul ds).mono (by omega)) W h
    rw [decide_eq_true (show (mulI a b).lo ≤ r * s ∧ r * s ≤ (mulI a b).hi from mulI_has hr hs)] at C2
    have R0 := fun W => lratio (n := 0) (d := 1) ⟨by omega, by omega⟩ ⟨by omega, by omega⟩ (by omega) W
    have CB := fun W (h : Env W) => econtains b (Rat.divInt 0 1) (db.mono (by omega)) ((small_dig (n := 0) (d := 1) (by decide) (by decide) (by decide)).mono (by omega)) W h
    rw [decide_eq_true (show b.lo ≤ Rat.divInt 0 1 ∧ Rat.divInt 0 1 ≤ b.hi from not_free hfr)] at CB
    unfold QIs at R0
    unfold QOk at ADD SUB MUL
    unfold BoolOk at C0 C1 C2 CB
    unfold I at C0 C1 C2 CB
    unfold Q at C0 C1 C2 CB R0 ADD SUB MUL
    clear da db dr ds hr hs oa ob hfr h1one h2two
    generalize hg : S a.lo.num = aln at *
    clear hg
    generalize hg : S (a.lo.den : Int) = ald at *
    clear hg
    generalize hg : S a.hi.num = ahn at *
    clear hg
    generalize hg : S (a.hi.den : Int) = ahd at *
    clear hg
    generalize hg : S b.lo.num = bln at *
    clear hg
    generalize hg : S (b.lo.den : Int) = bld at *
    clear hg
    generalize hg : S b.hi.num = bhn at *
    clear hg
    generalize hg : S (b.hi.den : Int) = bhd at *
    clear hg
    generalize hg : S r.num = rn at *
    clear hg
    generalize hg : S (r.den : Int) = rd at *
    clear hg
    generalize hg : S s.num = sn at *
    clear hg
    generalize hg : S (s.den : Int) = sd at *
    clear hg
    generalize hg : S (addI a b).lo.num = Aln at *
    clear hg
    generalize hg : S ((addI a b).lo.den : Int) = Ald at *
    clear hg
    generalize hg : S (addI a b).hi.num = Ahn at *
    clear hg
    generalize hg : S ((addI a b).hi.den : Int) = Ahd at *
    clear hg
    generalize hg : S (subI a b).lo.num = Dln at *
    clear hg
    generalize hg : S ((subI a b).lo.den : Int) = Dld at *
    clear hg
    generalize hg : S (subI a b).hi.num = Dhn at *
    clear hg
    generalize hg : S ((subI a b).hi.den : Int) = Dhd at *
    clear hg
    generalize hg : S (mulI a b).lo.num = Mln at *
    clear hg
    generalize hg : S ((mulI a b).lo.den : Int) = Mld at *
    clear hg
    generalize hg : S (mulI a b).hi.num = Mhn at *
    clear hg
    generalize hg : S ((mulI a b).hi.den : Int) = Mhd at *
    clear hg
    generalize hg : S (r + s).num = ran at *
    clear hg
    generalize hg : S ((r + s).den : Int) = rad at *
    clear hg
    generalize hg : S (r - s).num = rdn at *
    clear hg
    generalize hg : S ((r - s).den : Int) = rdd at *
    clear hg
    generalize hg : S (r * s).num = rmn at *
    clear hg
    generalize hg : S ((r * s).den : Int) = rmd at *
    clear hg
    generalize hg : S (Rat.divInt 0 1).num = zn at *
    clear hg
    generalize hg : S ((Rat.divInt 0 1).den : Int) = zd at *
    clear hg
    go_wp2_with fail
    have sB := hB.size
    refine world_cut (fun X => Below w.heap.size w X ∧ Row X W5.heap.size (.cells #[.string bln, .string bld, .string bhn, .string bhd] 29) ∧ Row X W7.heap.size (.cells #[.string rn, .string rd] 26) ∧ Row X W9.heap.size (.cells #[.string sn, .string sd] 26)) ⟨(by repeat (first | (with_reducible exact hB) | (with_reducible exact Below.refl _ _) | (with_reducible refine Below.drew ?_) | (with_reducible refine below_drewN ?_ _) | (with_reducible refine Below.alloc ?_ (by first | omega | (simp; done) | (simp; omega)) _) | (with_reducible refine Below.setCell ?_ (by first | omega | (simp; done) | (simp; omega)) _))), (by repeat (first | (with_reducible exact rb) | (with_reducible exact row_new' (by first | omega | (simp; done) | (simp; omega))) | (with_reducible refine Row.drew ?_) | (with_reducible refine Row.drewN ?_ _) | (with_reducible refine Row.alloc ?_ _) | (with_reducible apply Row.set4) | (with_reducible apply Row.set4a) | (with_reducible apply Row.set4b) | (with_reducible apply Row.set2) | (with_reducible apply Row.set1) | (with_reducible refine Row.set_other ?_ _ (by first | omega | (simp; done) | (simp; omega))))), (by repeat (first | (with_reducible exact rr) | (with_reducible exact row_new' (by first | omega | (simp; done) | (simp; omega))) | (with_reducible refine Row.drew ?_) | (with_reducible refine Row.drewN ?_ _) | (with_reducible refine Row.alloc ?_ _) | (with_reducible apply Row.set4) | (with_reducible apply Row.set4a) | (with_reducible apply Row.set4b) | (with_reducible apply Row.set2) | (with_reducible apply Row.set1) | (with_reducible refine Row.set_other ?_ _ (by first | omega | (simp; done) | (simp; omega))))), (by repeat (first | (with_reducible exact row_new' (by first | omega | (simp; done) | (simp; omega))) | (with_reducible refine Row.drew ?_) | (with_reducible refine Row.drewN ?_ _) | (with_reducible refine Row.alloc ?_ _) | (with_reducible apply Row.set4) | (with_reducible apply Row.set4a) | (with_reducible apply Row.set4b) | (with_reducible apply Row.set2) | (with_reducible apply Row.set1) | (with_reducible refine Row.set_other ?_ _ (by first | omega | (simp; done) | (simp; omega)))))⟩ ?_
    clear ra
    clear sa ca0 ca1 ca2 ca3
    clear rb
    clear sb cb0 cb1 cb2 cb3
    clear rr
    clear sr cr0 cr1
    clear hB sB
    rintro V10 ⟨hB, rb, rr, rs⟩
    have sb := rb.1
    have cb0 : V10.cell? ⟨W5.heap.size, 0, none⟩ = some (.string bln) := Row.cell_at rb 0 rfl
    have cb1 : V10.cell? ⟨W5.heap.size, 1, none⟩ = some (.string bld) := Row.cell_at rb 1 rfl
    have cb2 : V10.cell? ⟨W5.heap.size, 2, none⟩ = some (.string bhn) := Row.cell_at rb 2 rfl
    have cb3 : V10.cell? ⟨W5.heap.size, 3, none⟩ = some (.string bhd) := Row.cell_at rb 3 rfl
    have sr := rr.1
    have cr0 : V10.cell? ⟨W7.heap.size, 0, none⟩ = some (.string rn) := Row.cell_at rr 0 rfl
    have cr1 : V10.cell? ⟨W7.heap.size, 1, none⟩ = some (.string rd) := Row.cell_at rr 1 rfl
    have ss := rs.1
    have cs0 : V10.cell? ⟨W9.heap.size, 0, none⟩ = some (.string sn) := Row.cell_at rs 0 rfl
    have cs1 : V10.cell? ⟨W9.heap.size, 1, none⟩ = some (.string sd) := Row.cell_at rs 1 rfl
    refine (CALLS _ (he.below hB)).mono ?_
    rintro e W11 ⟨zs, us, g, gc, gs, h, hc, hs, rfl, rg, rh, xg, xh, h1⟩
    clear sb cb0 cb1 cb2 cb3
    clear sr cr0 cr1
    clear ss cs0 cs1
    replace hB := hB.trans (h1.mono hB.size)
    replace rb := Row.below rb h1
    replace rr := Row.below rr h1
    replace rs := Row.below rs h1
    clear h1
    have sb := rb.1
    have cb0 : W11.cell? ⟨W5.heap.size, 0, none⟩ = some (.string bln) := Row.cell_at rb 0 rfl
    have cb1 : W11.cell? ⟨W5.heap.size, 1, none⟩ = some (.string bld) := Row.cell_at rb 1 rfl
    have cb2 : W11.cell? ⟨W5.heap.size, 2, none⟩ = some (.string bhn) := Row.cell_at rb 2 rfl
    have cb3 : W11.cell? ⟨W5.heap.size, 3, none⟩ = some (.string bhd) := Row.cell_at rb 3 rfl
    have sr := rr.1
    have cr0 : W11.cell? ⟨W7.heap.size, 0, none⟩ = some (.string rn) := Row.cell_at rr 0 rfl
    have cr1 : W11.cell? ⟨W7.heap.size, 1, none⟩ = some (.string rd) := Row.cell_at rr 1 rfl
    have ss := rs.1
    have cs0 : W11.cell? ⟨W9.heap.size, 0, none⟩ = some (.string sn) := Row.cell_at rs 0 rfl
    have cs1 : W11.cell? ⟨W9.heap.size, 1, none⟩ = some (.string sd) := Row.cell_at rs 1 rfl
    have sg := rg.1
    have cg0 : W11.cell? ⟨g, 0, none⟩ = some (.string Aln) := Row.cell_take rg xg rfl
    have cg1 : W11.cell? ⟨g, 1, none⟩ = some (.string Ald) := Row.cell_take rg xg rfl
    have cg2 : W11.cell? ⟨g, 2, none⟩ = some (.string Ahn) := Row.cell_take rg xg rfl
    have cg3 : W11.cell? ⟨g, 3, none⟩ = some (.string Ahd) := Row.cell_take rg xg rfl
    have cg4 : W11.cell? ⟨g, 4, none⟩ = some (.string Dln) := Row.cell_take rg xg rfl
    have cg5 : W11.cell? ⟨g, 5, none⟩ = some (.string Dld) := Row.cell_take rg xg rfl
    have cg6 : W11.cell? ⟨g, 6, none⟩ = some (.string Dhn) := Row.cell_take rg xg rfl
    have cg7 : W11.cell? ⟨g, 7, none⟩ = some (.string Dhd) := Row.cell_take rg xg rfl
    have cg8 : W11.cell? ⟨g, 8, none⟩ = some (.string Mln) := Row.cell_take rg xg rfl
    have cg9 : W11.cell? ⟨g, 9, none⟩ = some (.string Mld) := Row.cell_take rg xg rfl
    have cg10 : W11.cell? ⟨g, 10, none⟩ = some (.string Mhn) := Row.cell_take rg xg rfl
    have cg11 : W11.cell? ⟨g, 11, none⟩ = some (.string Mhd) := Row.cell_take rg xg rfl
    have sh := rh.1
    have ch0 : W11.cell? ⟨h, 0, none⟩ = some (.int .i64 0) := Row.cell_take rh xh rfl
    have ch1 : W11.cell? ⟨h, 1, none⟩ = some (.int .i64 0) := Row.cell_take rh xh rfl
    have ch2 : W11.cell? ⟨h, 2, none⟩ = some (.int .i64 0) := Row.cell_take rh xh rfl
    have ch3 : W11.cell? ⟨h, 3, none⟩ = some (.int .i64 50) := Row.cell_take rh xh rfl
    go_wp2_with fail
    refine (ADD _ (he.env.below hB)).mono ?_
    rintro e W12 ⟨rfl, h1⟩
    clear sb cb0 cb1 cb2 cb3
    clear sr cr0 cr1
    clear ss cs0 cs1
    clear sg cg0 cg1 cg2 cg3 cg4 cg5 cg6 cg7 cg8 cg9 cg10 cg11
    clear sh ch0 ch1 ch2 ch3
    replace hB := hB.trans (h1.mono hB.size)
    replace rb := Row.below rb h1
    replace rr := Row.below rr h1
    replace rs := Row.below rs h1
    replace rg := Row.below rg h1
    replace rh := Row.below rh h1
    clear h1
    have sb := rb.1
    have cb0 : W12.cell? ⟨W5.heap.size, 0, none⟩ = some (.string bln) := Row.cell_at rb 0 rfl
    have cb1 : W12.cell? ⟨W5.heap.size, 1, none⟩ = some (.string bld) := Row.cell_at rb 1 rfl
    have cb2 : W12.cell? ⟨W5.heap.size, 2, none⟩ = some (.string bhn) := Row.cell_at rb 2 rfl
    have cb3 : W12.cell? ⟨W5.heap.size, 3, none⟩ = some (.string bhd) := Row.cell_at rb 3 rfl
    have sr := rr.1
    have cr0 : W12.cell? ⟨W7.heap.size, 0, none⟩ = some (.string rn) := Row.cell_at rr 0 rfl
    have cr1 : W12.cell? ⟨W7.heap.size, 1, none⟩ = some (.string rd) := Row.cell_at rr 1 rfl
    have ss := rs.1
    have cs0 : W12.cell? ⟨W9.heap.size, 0, none⟩ = some (.string sn) := Row.cell_at rs 0 rfl
    have cs1 : W12.cell? ⟨W9.heap.size, 1, none⟩ = some (.string sd) := Row.cell_at rs 1 rfl
    have sg := rg.1
    have cg0 : W12.cell? ⟨g, 0, none⟩ = some (.string Aln) := Row.cell_take rg xg rfl
    have cg1 : W12.cell? ⟨g, 1, none⟩ = some (.string Ald) := Row.cell_take rg xg rfl
    have cg2 : W12.cell? ⟨g, 2, none⟩ = some (.string Ahn) := Row.cell_take rg xg rfl
    have cg3 : W12.cell? ⟨g, 3, none⟩ = some (.string Ahd) := Row.cell_take rg xg rfl
    have cg4 : W12.cell? ⟨g, 4, none⟩ = some (.string Dln) := Row.cell_take rg xg rfl
    have cg5 : W12.cell? ⟨g, 5, none⟩ = some (.string Dld) := Row.cell_take rg xg rfl
    have cg6 : W12.cell? ⟨g, 6, none⟩ = some (.string Dhn) := Row.cell_take rg xg rfl
    have cg7 : W12.cell? ⟨g, 7, none⟩ = some (.string Dhd) := Row.cell_take rg xg rfl
    have cg8 : W12.cell? ⟨g, 8, none⟩ = some (.string Mln) := Row.cell_take rg xg rfl
    have cg9 : W12.cell? ⟨g, 9, none⟩ = some (.string Mld) := Row.cell_take rg xg rfl
    have cg10 : W12.cell? ⟨g, 10, none⟩ = some (.string Mhn) := Row.cell_take rg xg rfl
    have cg11 : W12.cell? ⟨g, 11, none⟩ = some (.string Mhd) := Row.cell_take rg xg rfl
    have sh := rh.1
    have ch0 : W12.cell? ⟨h, 0, none⟩ = some (.int .i64 0) := Row.cell_take rh xh rfl
    have ch1 : W12.cell? ⟨h, 1, none⟩ = some (.int .i64 0) := Row.cell_take rh xh rfl
    have ch2 : W12.cell? ⟨h, 2, none⟩ = some (.int .i64 0) := Row.cell_take rh xh rfl
    have ch3 : W12.cell? ⟨h, 3, none⟩ = some (.int .i64 50) := Row.cell_take rh xh rfl
    go_wp2_with fail
    have sB := hB.size
    refine world_cut (fun X => Below w.heap.size w X ∧ Row X W5.heap.size (.cells #[.string bln, .string bld, .string bhn, .string bhd] 29) ∧ Row X W7.heap.size (.cells #[.string rn, .string rd] 26) ∧ Row X W9.heap.size (.cells #[.string sn, .string sd] 26) ∧ Row X g (.cells gs 29) ∧ Row X h (.cells hs 31) ∧ Row X W12.heap.size (.cells #[.string ran, .string rad] 26)) ⟨(by repeat (first | (with_reducible exact hB) | (with_reducible exact Below.refl _ _) | (with_reducible refine Below.drew ?_) | (with_reducible refine below_drewN ?_ _) | (with_reducible refine Below.alloc ?_ (by first | omega | (simp; done) | (simp; omega)) _) | (with_reducible refine Below.setCell ?_ (by first | omega | (simp; done) | (simp; omega)) _))), (by repeat (first | (with_reducible exact rb) | (with_reducible exact row_new' (by first | omega | (simp; done) | (simp; omega))) | (with_reducible refine Row.drew ?_) | (with_reducible refine Row.drewN ?_ _) | (with_reducible refine Row.alloc ?_ _) | (with_reducible apply Row.set4) | (with_reducible apply Row.set4a) | (with_reducible apply Row.set4b) | (with_reducible apply Row.set2) | (with_reducible apply Row.set1) | (with_reducible refine Row.set_other ?_ _ (by first | omega | (simp; done) | (simp; omega))))), (by repeat (first | (with_reducible exact rr) | (with_reducible exact row_new' (by first | omega | (simp; done) | (simp; omega))) | (with_reducible refine Row.drew ?_) | (with_reducible refine Row.drewN ?_ _) | (with_reducible refine Row.alloc ?_ _) | (with_reducible apply Row.set4) | (with_reducible apply Row.set4a) | (with_reducible apply Row.set4b) | (with_reducible apply Row.set2) | (with_reducible apply Row.set1) | (with_reducible refine Row.set_other ?_ _ (by first | omega | (simp; done) | (simp; omega))))), (by repeat (first | (with_reducible exact rs) | (with_reducible exact row_new' (by first | omega | (simp; done) | (simp; omega))) | (with_reducible refine Row.drew ?_) | (with_reducible refine Row.drewN ?_ _) | (with_reducible refine Row.alloc ?_ _) | (with_reducible apply Row.set4) | (with_reducible apply Row.set4a) | (with_reducible apply Row.set4b) | (with_reducible apply Row.set2) | (with_reducible apply Row.set1) | (with_reducible refine Row.set_other ?_ _ (by first | omega | (simp; done) | (simp; omega))))), (by repeat (first | (with_reducible exact rg) | (with_reducible exact row_new' (by first | omega | (simp; done) | (simp; omega))) | (with_reducible refine Row.drew ?_) | (with_reducible refine Row.drewN ?_ _) | (with_reducible refine Row.alloc ?_ _) | (with_reducible apply Row.set4) | (with_reducible apply Row.set4a) | (with_reducible apply Row.set4b) | (with_reducible apply Row.set2) | (with_reducible apply Row.set1) | (with_reducible refine Row.set_other ?_ _ (by first | omega | (simp; done) | (simp; omega))))), (by repeat (first | (with_reducible exact rh) | (with_reducible exact row_new' (by first | omega | (simp; done) | (simp; omega))) | (with_reducible refine Row.drew ?_) | (with_reducible refine Row.drewN ?_ _) | (with_reducible refine Row.alloc ?_ _) | (with_reducible apply Row.set4) | (with_reducible apply Row.set4a) | (with_reducible apply Row.set4b) | (with_reducible apply Row.set2) | (with_reducible apply Row.set1) | (with_reducible refine Row.set_other ?_ _ (by first | omega | (simp; done) | (simp; omega))))), (by repeat (first | (with_reducible exact row_new' (by first | omega | (simp; done) | (simp; omega))) | (with_reducible refine Row.drew ?_) | (with_reducible refine Row.drewN ?_ _) | (with_reducible refine Row.alloc ?_ _) | (with_reducible apply Row.set4) | (with_reducible apply Row.set4a) | (with_reducible apply Row.set4b) | (with_reducible apply Row.set2) | (with_reducible apply Row.set1) | (with_reducible refine Row.set_other ?_ _ (by first | omega | (simp; done) | (simp; omega)))))⟩ ?_
    clear rb
    clear sb cb0 cb1 cb2 cb3
    clear rr
    clear sr cr0 cr1
    clear rs
    clear ss cs0 cs1
    clear rg
    clear sg cg0 cg1 cg2 cg3 cg4 cg5 cg6 cg7 cg8 cg9 cg10 cg11
    clear rh
    clear sh ch0 ch1 ch2 ch3
    clear hB sB
    rintro V13 ⟨hB, rb, rr, rs, rg, rh, rsu⟩
    have sb := rb.1
    have cb0 : V13.cell? ⟨W5.heap.size, 0, none⟩ = some (.string bln) := Row.cell_at rb 0 rfl
    have cb1 : V13.cell? ⟨W5.heap.size, 1, none⟩ = some (.string bld) := Row.cell_at rb 1 rfl
    have cb2 : V13.cell? ⟨W5.heap.size, 2, none⟩ = some (.string bhn) := Row.cell_at rb 2 rfl
    have cb3 : V13.cell? ⟨W5.heap.size, 3, none⟩ = some (.string bhd) := Row.cell_at rb 3 rfl
    have sr := rr.1
    have cr0 : V13.cell? ⟨W7.heap.size, 0, none⟩ = some (.string rn) := Row.cell_at rr 0 rfl
    have cr1 : V13.cell? ⟨W7.heap.size, 1, none⟩ = some (.string rd) := Row.cell_at rr 1 rfl
    have ss := rs.1
    have cs0 : V13.cell? ⟨W9.heap.size, 0, none⟩ = some (.string sn) := Row.cell_at rs 0 rfl
    have cs1 : V13.cell? ⟨W9.heap.size, 1, none⟩ = some (.string sd) := Row.cell_at rs 1 rfl
    have sg := rg.1
    have cg0 : V13.cell? ⟨g, 0, none⟩ = some (.string Aln) := Row.cell_take rg xg rfl
    have cg1 : V13.cell? ⟨g, 1, none⟩ = some (.string Ald) := Row.cell_take rg xg rfl
    have cg2 : V13.cell? ⟨g, 2, none⟩ = some (.string Ahn) := Row.cell_take rg xg rfl
    have cg3 : V13.cell? ⟨g, 3, none⟩ = some (.string Ahd) := Row.cell_take rg xg rfl
    have cg4 : V13.cell? ⟨g, 4, none⟩ = some (.string Dln) := Row.cell_take rg xg rfl
    have cg5 : V13.cell? ⟨g, 5, none⟩ = some (.string Dld) := Row.cell_take rg xg rfl
    have cg6 : V13.cell? ⟨g, 6, none⟩ = some (.string Dhn) := Row.cell_take rg xg rfl
    have cg7 : V13.cell? ⟨g, 7, none⟩ = some (.string Dhd) := Row.cell_take rg xg rfl
    have cg8 : V13.cell? ⟨g, 8, none⟩ = some (.string Mln) := Row.cell_take rg xg rfl
    have cg9 : V13.cell? ⟨g, 9, none⟩ = some (.string Mld) := Row.cell_take rg xg rfl
    have cg10 : V13.cell? ⟨g, 10, none⟩ = some (.string Mhn) := Row.cell_take rg xg rfl
    have cg11 : V13.cell? ⟨g, 11, none⟩ = some (.string Mhd) := Row.cell_take rg xg rfl
    have sh := rh.1
    have ch0 : V13.cell? ⟨h, 0, none⟩ = some (.int .i64 0) := Row.cell_take rh xh rfl
    have ch1 : V13.cell? ⟨h, 1, none⟩ = some (.int .i64 0) := Row.cell_take rh xh rfl
    have ch2 : V13.cell? ⟨h, 2, none⟩ = some (.int .i64 0) := Row.cell_take rh xh rfl
    have ch3 : V13.cell? ⟨h, 3, none⟩ = some (.int .i64 50) := Row.cell_take rh xh rfl
    have ssu := rsu.1
    have csu0 : V13.cell? ⟨W12.heap.size, 0, none⟩ = some (.string ran) := Row.cell_at rsu 0 rfl
    have csu1 : V13.cell? ⟨W12.heap.size, 1, none⟩ = some (.string rad) := Row.cell_at rsu 1 rfl
    refine (SUB _ (he.env.below hB)).mono ?_
    rintro e W14 ⟨rfl, h1⟩
    clear sb cb0 cb1 cb2 cb3
    clear sr cr0 cr1
    clear ss cs0 cs1
    clear sg cg0 cg1 cg2 cg3 cg4 cg5 cg6 cg7 cg8 cg9 cg10 cg11
    clear sh ch0 ch1 ch2 ch3
    clear ssu csu0 csu1
    replace hB := hB.trans (h1.mono hB.size)
    replace rb := Row.below rb h1
    replace rr := Row.below rr h1
    replace rs := Row.below rs h1
    replace rg := Row.below rg h1
    replace rh := Row.below rh h1
    replace rsu := Row.below rsu h1
    clear h1
    have sb := rb.1
    have cb0 : W14.cell? ⟨W5.heap.size, 0, none⟩ = some (.string bln) := Row.cell_at rb 0 rfl
    have cb1 : W14.cell? ⟨W5.heap.size, 1, none⟩ = some (.string bld) := Row.cell_at rb 1 rfl
    have cb2 : W14.cell? ⟨W5.heap.size, 2, none⟩ = some (.string bhn) := Row.cell_at rb 2 rfl
    have cb3 : W14.cell? ⟨W5.heap.size, 3, none⟩ = some (.string bhd) := Row.cell_at rb 3 rfl
    have sr := rr.1
    have cr0 : W14.cell? ⟨W7.heap.size, 0, none⟩ = some (.string rn) := Row.cell_at rr 0 rfl
    have cr1 : W14.cell? ⟨W7.heap.size, 1, none⟩ = some (.string rd) := Row.cell_at rr 1 rfl
    have ss := rs.1
    have cs0 : W14.cell? ⟨W9.heap.size, 0, none⟩ = some (.string sn) := Row.cell_at rs 0 rfl
    have cs1 : W14.cell? ⟨W9.heap.size, 1, none⟩ = some (.string sd) := Row.cell_at rs 1 rfl
    have sg := rg.1
    have cg0 : W14.cell? ⟨g, 0, none⟩ = some (.string Aln) := Row.cell_take rg xg rfl
    have cg1 : W14.cell? ⟨g, 1, none⟩ = some (.string Ald) := Row.cell_take rg xg rfl
    have cg2 : W14.cell? ⟨g, 2, none⟩ = some (.string Ahn) := Row.cell_take rg xg rfl
    have cg3 : W14.cell? ⟨g, 3, none⟩ = some (.string Ahd) := Row.cell_take rg xg rfl
    have cg4 : W14.cell? ⟨g, 4, none⟩ = some (.string Dln) := Row.cell_take rg xg rfl
    have cg5 : W14.cell? ⟨g, 5, none⟩ = some (.string Dld) := Row.cell_take rg xg rfl
    have cg6 : W14.cell? ⟨g, 6, none⟩ = some (.string Dhn) := Row.cell_take rg xg rfl
    have cg7 : W14.cell? ⟨g, 7, none⟩ = some (.string Dhd) := Row.cell_take rg xg rfl
    have cg8 : W14.cell? ⟨g, 8, none⟩ = some (.string Mln) := Row.cell_take rg xg rfl
    have cg9 : W14.cell? ⟨g, 9, none⟩ = some (.string Mld) := Row.cell_take rg xg rfl
    have cg10 : W14.cell? ⟨g, 10, none⟩ = some (.string Mhn) := Row.cell_take rg xg rfl
    have cg11 : W14.cell? ⟨g, 11, none⟩ = some (.string Mhd) := Row.cell_take rg xg rfl
    have sh := rh.1
    have ch0 : W14.cell? ⟨h, 0, none⟩ = some (.int .i64 0) := Row.cell_take rh xh rfl
    have ch1 : W14.cell? ⟨h, 1, none⟩ = some (.int .i64 0) := Row.cell_take rh xh rfl
    have ch2 : W14.cell? ⟨h, 2, none⟩ = some (.int .i64 0) := Row.cell_take rh xh rfl
    have ch3 : W14.cell? ⟨h, 3, none⟩ = some (.int .i64 50) := Row.cell_take rh xh rfl
    have ssu := rsu.1
    have csu0 : W14.cell? ⟨W12.heap.size, 0, none⟩ = some (.string ran) := Row.cell_at rsu 0 rfl
    have csu1 : W14.cell? ⟨W12.heap.size, 1, none⟩ = some (.string rad) := Row.cell_at rsu 1 rfl
    go_wp2_with fail
    have sB := hB.size
    refine world_cut (fun X => Below w.heap.size w X ∧ Row X W5.heap.size (.cells #[.string bln, .string bld, .string bhn, .string bhd] 29) ∧ Row X W7.heap.size (.cells #[.string rn, .string rd] 26) ∧ Row X W9.heap.size (.cells #[.string sn, .string sd] 26) ∧ Row X g (.cells gs 29) ∧ Row X h (.cells hs 31) ∧ Row X W12.heap.size (.cells #[.string ran, .string rad] 26) ∧ Row X W14.heap.size (.cells #[.string rdn, .string rdd] 26)) ⟨(by repeat (first | (with_reducible exact hB) | (with_reducible exact Below.refl _ _) | (with_reducible refine Below.drew ?_) | (with_reducible refine below_drewN ?_ _) | (with_reducible refine Below.alloc ?_ (by first | omega | (simp; done) | (simp; omega)) _) | (with_reducible refine Below.setCell ?_ (by first | omega | (simp; done) | (simp; omega)) _))), (by repeat (first | (with_reducible exact rb) | (with_reducible exact row_new' (by first | omega | (simp; done) | (simp; omega))) | (with_reducible refine Row.drew ?_) | (with_reducible refine Row.drewN ?_ _) | (with_reducible refine Row.alloc ?_ _) | (with_reducible apply Row.set4) | (with_reducible apply Row.set4a) | (with_reducible apply Row.set4b) | (with_reducible apply Row.set2) | (with_reducible apply Row.set1) | (with_reducible refine Row.set_other ?_ _ (by first | omega | (simp; done) | (simp; omega))))), (by repeat (first | (with_reducible exact rr) | (with_reducible exact row_new' (by first | omega | (simp; done) | (simp; omega))) | (with_reducible refine Row.drew ?_) | (with_reducible refine Row.drewN ?_ _) | (with_reducible refine Row.alloc ?_ _) | (with_reducible apply Row.set4) | (with_reducible apply Row.set4a) | (with_reducible apply Row.set4b) | (with_reducible apply Row.set2) | (with_reducible apply Row.set1) | (with_reducible refine Row.set_other ?_ _ (by first | omega | (simp; done) | (simp; omega))))), (by repeat (first | (with_reducible exact rs) | (with_reducible exact row_new' (by first | omega | (simp; done) | (simp; omega))) | (with_reducible refine Row.drew ?_) | (with_reducible refine Row.drewN ?_ _) | (with_reducible refine Row.alloc ?_ _) | (with_reducible apply Row.set4) | (with_reducible apply Row.set4a) | (with_reducible apply Row.set4b) | (with_reducible apply Row.set2) | (with_reducible apply Row.set1) | (with_reducible refine Row.set_other ?_ _ (by first | omega | (simp; done) | (simp; omega))))), (by repeat (first | (with_reducible exact rg) | (with_reducible exact row_new' (by first | omega | (simp; done) | (simp; omega))) | (with_reducible refine Row.drew ?_) | (with_reducible refine Row.drewN ?_ _) | (with_reducible refine Row.alloc ?_ _) | (with_reducible apply Row.set4) | (with_reducible apply Row.set4a) | (with_reducible apply Row.set4b) | (with_reducible apply Row.set2) | (with_reducible apply Row.set1) | (with_reducible refine Row.set_other ?_ _ (by first | omega | (simp; done) | (simp; omega))))), (by repeat (first | (with_reducible exact rh) | (with_reducible exact row_new' (by first | omega | (simp; done) | (simp; omega))) | (with_reducible refine Row.drew ?_) | (with_reducible refine Row.drewN ?_ _) | (with_reducible refine Row.alloc ?_ _) | (with_reducible apply Row.set4) | (with_reducible apply Row.set4a) | (with_reducible apply Row.set4b) | (with_reducible apply Row.set2) | (with_reducible apply Row.set1) | (with_reducible refine Row.set_other ?_ _ (by first | omega | (simp; done) | (simp; omega))))), (by repeat (first | (with_reducible exact rsu) | (with_reducible exact row_new' (by first | omega | (simp; done) | (simp; omega))) | (with_reducible refine Row.drew ?_) | (with_reducible refine Row.drewN ?_ _) | (with_reducible refine Row.alloc ?_ _) | (with_reducible apply Row.set4) | (with_reducible apply Row.set4a) | (with_reducible apply Row.set4b) | (with_reducible apply Row.set2) | (with_reducible apply Row.set1) | (with_reducible refine Row.set_other ?_ _ (by first | omega | (simp; done) | (simp; omega))))), (by repeat (first | (with_reducible exact row_new' (by first | omega | (simp; done) | (simp; omega))) | (with_reducible refine Row.drew ?_) | (with_reducible refine Row.drewN ?_ _) | (with_reducible refine Row.alloc ?_ _) | (with_reducible apply Row.set4) | (with_reducible apply Row.set4a) | (with_reducible apply Row.set4b) | (with_reducible apply Row.set2) | (with_reducible apply Row.set1) | (with_reducible refine Row.set_other ?_ _ (by first | omega | (simp; done) | (simp; omega)))))⟩ ?_
    clear rb
    clear sb cb0 cb1 cb2 cb3
    clear rr
    clear sr cr0 cr1
    clear rs
    clear ss cs0 cs1
    clear rg
    clear sg cg0 cg1 cg2 cg3 cg4 cg5 cg6 cg7 cg8 cg9 cg10 cg11
    clear rh
    clear sh ch0 ch1 ch2 ch3
    clear rsu
    clear ssu csu0 csu1
    clear hB sB
    rintro V15 ⟨hB, rb, rr, rs, rg, rh, rsu, rdi⟩
    have sb := rb.1
    have cb0 : V15.cell? ⟨W5.heap.size, 0, none⟩ = some (.string bln) := Row.cell_at rb 0 rfl
    have cb1 : V15.cell? ⟨W5.heap.size, 1, none⟩ = some (.string bld) := Row.cell_at rb 1 rfl
    have cb2 : V15.cell? ⟨W5.heap.size, 2, none⟩ = some (.string bhn) := Row.cell_at rb 2 rfl
    have cb3 : V15.cell? ⟨W5.heap.size, 3, none⟩ = some (.string bhd) := Row.cell_at rb 3 rfl
    have sr := rr.1
    have cr0 : V15.cell? ⟨W7.heap.size, 0, none⟩ = some (.string rn) := Row.cell_at rr 0 rfl
    have cr1 : V15.cell? ⟨W7.heap.size, 1, none⟩ = some (.string rd) := Row.cell_at rr 1 rfl
    have ss := rs.1
    have cs0 : V15.cell? ⟨W9.heap.size, 0, none⟩ = some (.string sn) := Row.cell_at rs 0 rfl
    have cs1 : V15.cell? ⟨W9.heap.size, 1, none⟩ = some (.string sd) := Row.cell_at rs 1 rfl
    have sg := rg.1
    have cg0 : V15.cell? ⟨g, 0, none⟩ = some (.string Aln) := Row.cell_take rg xg rfl
    have cg1 : V15.cell? ⟨g, 1, none⟩ = some (.string Ald) := Row.cell_take rg xg rfl
    have cg2 : V15.cell? ⟨g, 2, none⟩ = some (.string Ahn) := Row.cell_take rg xg rfl
    have cg3 : V15.cell? ⟨g, 3, none⟩ = some (.string Ahd) := Row.cell_take rg xg rfl
    have cg4 : V15.cell? ⟨g, 4, none⟩ = some (.string Dln) := Row.cell_take rg xg rfl
    have cg5 : V15.cell? ⟨g, 5, none⟩ = some (.string Dld) := Row.cell_take rg xg rfl
    have cg6 : V15.cell? ⟨g, 6, none⟩ = some (.string Dhn) := Row.cell_take rg xg rfl
    have cg7 : V15.cell? ⟨g, 7, none⟩ = some (.string Dhd) := Row.cell_take rg xg rfl
    have cg8 : V15.cell? ⟨g, 8, none⟩ = some (.string Mln) := Row.cell_take rg xg rfl
    have cg9 : V15.cell? ⟨g, 9, none⟩ = some (.string Mld) := Row.cell_take rg xg rfl
    have cg10 : V15.cell? ⟨g, 10, none⟩ = some (.string Mhn) := Row.cell_take rg xg rfl
    have cg11 : V15.cell? ⟨g, 11, none⟩ = some (.string Mhd) := Row.cell_take rg xg rfl
    have sh := rh.1
    have ch0 : V15.cell? ⟨h, 0, none⟩ = some (.int .i64 0) := Row.cell_take rh xh rfl
    have ch1 : V15.cell? ⟨h, 1, none⟩ = some (.int .i64 0) := Row.cell_take rh xh rfl
    have ch2 : V15.cell? ⟨h, 2, none⟩ = some (.int .i64 0) := Row.cell_take rh xh rfl
    have ch3 : V15.cell? ⟨h, 3, none⟩ = some (.int .i64 50) := Row.cell_take rh xh rfl
    have ssu := rsu.1
    have csu0 : V15.cell? ⟨W12.heap.size, 0, none⟩ = some (.string ran) := Row.cell_at rsu 0 rfl
    have csu1 : V15.cell? ⟨W12.heap.size, 1, none⟩ = some (.string rad) := Row.cell_at rsu 1 rfl
    have sdi := rdi.1
    have cdi0 : V15.cell? ⟨W14.heap.size, 0, none⟩ = some (.string rdn) := Row.cell_at rdi 0 rfl
    have cdi1 : V15.cell? ⟨W14.heap.size, 1, none⟩ = some (.string rdd) := Row.cell_at rdi 1 rfl
    refine (MUL _ (he.env.below hB)).mono ?_
    rintro e W16 ⟨rfl, h1⟩
    clear sb cb0 cb1 cb2 cb3
    clear sr cr0 cr1
    clear ss cs0 cs1
    clear sg cg0 cg1 cg2 cg3 cg4 cg5 cg6 cg7 cg8 cg9 cg10 cg11
    clear sh ch0 ch1 ch2 ch3
    clear ssu csu0 csu1
    clear sdi cdi0 cdi1
    replace hB := hB.trans (h1.mono hB.size)
    replace rb := Row.below rb h1
    replace rr := Row.below rr h1
    replace rs := Row.below rs h1
    replace rg := Row.below rg h1
    replace rh := Row.below rh h1
    replace rsu := Row.below rsu h1
    replace rdi := Row.below rdi h1
    clear h1
    have sb := rb.1
    have cb0 : W16.cell? ⟨W5.heap.size, 0, none⟩ = some (.string bln) := Row.cell_at rb 0 rfl
    have cb1 : W16.cell? ⟨W5.heap.size, 1, none⟩ = some (.string bld) := Row.cell_at rb 1 rfl
    have cb2 : W16.cell? ⟨W5.heap.size, 2, none⟩ = some (.string bhn) := Row.cell_at rb 2 rfl
    have cb3 : W16.cell? ⟨W5.heap.size, 3, none⟩ = some (.string bhd) := Row.cell_at rb 3 rfl
    have sr := rr.1
    have cr0 : W16.cell? ⟨W7.heap.size, 0, none⟩ = some (.string rn) := Row.cell_at rr 0 rfl
    have cr1 : W16.cell? ⟨W7.heap.size, 1, none⟩ = some (.string rd) := Row.cell_at rr 1 rfl
    have ss := rs.1
    have cs0 : W16.cell? ⟨W9.heap.size, 0, none⟩ = some (.string sn) := Row.cell_at rs 0 rfl
    have cs1 : W16.cell? ⟨W9.heap.size, 1, none⟩ = some (.string sd) := Row.cell_at rs 1 rfl
    have sg := rg.1
    have cg0 : W16.cell? ⟨g, 0, none⟩ = some (.string Aln) := Row.cell_take rg xg rfl
    have cg1 : W16.cell? ⟨g, 1, none⟩ = some (.string Ald) := Row.cell_take rg xg rfl
    have cg2 : W16.cell? ⟨g, 2, none⟩ = some (.string Ahn) := Row.cell_take rg xg rfl
    have cg3 : W16.cell? ⟨g, 3, none⟩ = some (.string Ahd) := Row.cell_take rg xg rfl
    have cg4 : W16.cell? ⟨g, 4, none⟩ = some (.string Dln) := Row.cell_take rg xg rfl
    have cg5 : W16.cell? ⟨g, 5, none⟩ = some (.string Dld) := Row.cell_take rg xg rfl
    have cg6 : W16.cell? ⟨g, 6, none⟩ = some (.string Dhn) := Row.cell_take rg xg rfl
    have cg7 : W16.cell? ⟨g, 7, none⟩ = some (.string Dhd) := Row.cell_take rg xg rfl
    have cg8 : W16.cell? ⟨g, 8, none⟩ = some (.string Mln) := Row.cell_take rg xg rfl
    have cg9 : W16.cell? ⟨g, 9, none⟩ = some (.string Mld) := Row.cell_take rg xg rfl
    have cg10 : W16.cell? ⟨g, 10, none⟩ = some (.string Mhn) := Row.cell_take rg xg rfl
    have cg11 : W16.cell? ⟨g, 11, none⟩ = some (.string Mhd) := Row.cell_take rg xg rfl
    have sh := rh.1
    have ch0 : W16.cell? ⟨h, 0, none⟩ = some (.int .i64 0) := Row.cell_take rh xh rfl
    have ch1 : W16.cell? ⟨h, 1, none⟩ = some (.int .i64 0) := Row.cell_take rh xh rfl
    have ch2 : W16.cell? ⟨h, 2, none⟩ = some (.int .i64 0) := Row.cell_take rh xh rfl
    have ch3 : W16.cell? ⟨h, 3, none⟩ = some (.int .i64 50) := Row.cell_take rh xh rfl
    have ssu := rsu.1
    have csu0 : W16.cell? ⟨W12.heap.size, 0, none⟩ = some (.string ran) := Row.cell_at rsu 0 rfl
    have csu1 : W16.cell? ⟨W12.heap.size, 1, none⟩ = some (.string rad) := Row.cell_at rsu 1 rfl
    have sdi := rdi.1
    have cdi0 : W16.cell? ⟨W14.heap.size, 0, none⟩ = some (.string rdn) := Row.cell_at rdi 0 rfl
    have cdi1 : W16.cell? ⟨W14.heap.size, 1, none⟩ = some (.string rdd) := Row.cell_at rdi 1 rfl
    go_wp2_with fail
    have sB := hB.size
    refine wp_cut (fun X => Below w.heap.size w X ∧ Row X W5.heap.size (.cells #[.string bln, .string bld, .string bhn, .string bhd] 29) ∧ Row X W7.heap.size (.cells #[.string rn, .string rd] 26) ∧ Row X W9.heap.size (.cells #[.string sn, .string sd] 26) ∧ Row X g (.cells gs 29) ∧ Row X h (.cells hs 31) ∧ Row X W12.heap.size (.cells #[.string ran, .string rad] 26) ∧ Row X W14.heap.size (.cells #[.string rdn, .string rdd] 26) ∧ Row X W16.heap.size (.cells #[.string rmn, .string rmd] 26)) ⟨(by repeat (first | (with_reducible exact hB) | (with_reducible exact Below.refl _ _) | (with_reducible refine Below.drew ?_) | (with_reducible refine below_drewN ?_ _) | (with_reducible refine Below.alloc ?_ (by first | omega | (simp; done) | (simp; omega)) _) | (with_reducible refine Below.setCell ?_ (by first | omega | (simp; done) | (simp; omega)) _))), (by repeat (first | (with_reducible exact rb) | (with_reducible exact row_new' (by first | omega | (simp; done) | (simp; omega))) | (with_reducible refine Row.drew ?_) | (with_reducible refine Row.drewN ?_ _) | (with_reducible refine Row.alloc ?_ _) | (with_reducible apply Row.set4) | (with_reducible apply Row.set4a) | (with_reducible apply Row.set4b) | (with_reducible apply Row.set2) | (with_reducible apply Row.set1) | (with_reducible refine Row.set_other ?_ _ (by first | omega | (simp; done) | (simp; omega))))), (by repeat (first | (with_reducible exact rr) | (with_reducible exact row_new' (by first | omega | (simp; done) | (simp; omega))) | (with_reducible refine Row.drew ?_) | (with_reducible refine Row.drewN ?_ _) | (with_reducible refine Row.alloc ?_ _) | (with_reducible apply Row.set4) | (with_reducible apply Row.set4a) | (with_reducible apply Row.set4b) | (with_reducible apply Row.set2) | (with_reducible apply Row.set1) | (with_reducible refine Row.set_other ?_ _ (by first | omega | (simp; done) | (simp; omega))))), (by repeat (first | (with_reducible exact rs) | (with_reducible exact row_new' (by first | omega | (simp; done) | (simp; omega))) | (with_reducible refine Row.drew ?_) | (with_reducible refine Row.drewN ?_ _) | (with_reducible refine Row.alloc ?_ _) | (with_reducible apply Row.set4) | (with_reducible apply Row.set4a) | (with_reducible apply Row.set4b) | (with_reducible apply Row.set2) | (with_reducible apply Row.set1) | (with_reducible refine Row.set_other ?_ _ (by first | omega | (simp; done) | (simp; omega))))), (by repeat (first | (with_reducible exact rg) | (with_reducible exact row_new' (by first | omega | (simp; done) | (simp; omega))) | (with_reducible refine Row.drew ?_) | (with_reducible refine Row.drewN ?_ _) | (with_reducible refine Row.alloc ?_ _) | (with_reducible apply Row.set4) | (with_reducible apply Row.set4a) | (with_reducible apply Row.set4b) | (with_reducible apply Row.set2) | (with_reducible apply Row.set1) | (with_reducible refine Row.set_other ?_ _ (by first | omega | (simp; done) | (simp; omega))))), (by repeat (first | (with_reducible exact rh) | (with_reducible exact row_new' (by first | omega | (simp; done) | (simp; omega))) | (with_reducible refine Row.drew ?_) | (with_reducible refine Row.drewN ?_ _) | (with_reducible refine Row.alloc ?_ _) | (with_reducible apply Row.set4) | (with_reducible apply Row.set4a) | (with_reducible apply Row.set4b) | (with_reducible apply Row.set2) | (with_reducible apply Row.set1) | (with_reducible refine Row.set_other ?_ _ (by first | omega | (simp; done) | (simp; omega))))), (by repeat (first | (with_reducible exact rsu) | (with_reducible exact row_new' (by first | omega | (simp; done) | (simp; omega))) | (with_reducible refine Row.drew ?_) | (with_reducible refine Row.drewN ?_ _) | (with_reducible refine Row.alloc ?_ _) | (with_reducible apply Row.set4) | (with_reducible apply Row.set4a) | (with_reducible apply Row.set4b) | (with_reducible apply Row.set2) | (with_reducible apply Row.set1) | (with_reducible refine Row.set_other ?_ _ (by first | omega | (simp; done) | (simp; omega))))), (by repeat (first | (with_reducible exact rdi) | (with_reducible exact row_new' (by first | omega | (simp; done) | (simp; omega))) | (with_reducible refine Row.drew ?_) | (with_reducible refine Row.drewN ?_ _) | (with_reducible refine Row.alloc ?_ _) | (with_reducible apply Row.set4) | (with_reducible apply Row.set4a) | (with_reducible apply Row.set4b) | (with_reducible apply Row.set2) | (with_reducible apply Row.set1) | (with_reducible refine Row.set_other ?_ _ (by first | omega | (simp; done) | (simp; omega))))), (by repeat (first | (with_reducible exact row_new' (by first | omega | (simp; done) | (simp; omega))) | (with_reducible refine Row.drew ?_) | (with_reducible refine Row.drewN ?_ _) | (with_reducible refine Row.alloc ?_ _) | (with_reducible apply Row.set4) | (with_reducible apply Row.set4a) | (with_reducible apply Row.set4b) | (with_reducible apply Row.set2) | (with_reducible apply Row.set1) | (with_reducible refine Row.set_other ?_ _ (by first | omega | (simp; done) | (simp; omega)))))⟩ ?_
    clear rb
    clear sb cb0 cb1 cb2 cb3
    clear rr
    clear sr cr0 cr1
    clear rs
    clear ss cs0 cs1
    clear rg
    clear sg cg0 cg1 cg2 cg3 cg4 cg5 cg6 cg7 cg8 cg9 cg10 cg11
    clear rh
    clear sh ch0 ch1 ch2 ch3
    clear rsu
    clear ssu csu0 csu1
    clear rdi
    clear sdi cdi0 cdi1
    clear hB sB
    rintro V17 ⟨hB, rb, rr, rs, rg, rh, rsu, rdi, rpr⟩
    have sb := rb.1
    have cb0 : V17.cell? ⟨W5.heap.size, 0, none⟩ = some (.string bln) := Row.cell_at rb 0 rfl
    have cb1 : V17.cell? ⟨W5.heap.size, 1, none⟩ = some (.string bld) := Row.cell_at rb 1 rfl
    have cb2 : V17.cell? ⟨W5.heap.size, 2, none⟩ = some (.string bhn) := Row.cell_at rb 2 rfl
    have cb3 : V17.cell? ⟨W5.heap.size, 3, none⟩ = some (.string bhd) := Row.cell_at rb 3 rfl
    have sr := rr.1
    have cr0 : V17.cell? ⟨W7.heap.size, 0, none⟩ = some (.string rn) := Row.cell_at rr 0 rfl
    have cr1 : V17.cell? ⟨W7.heap.size, 1, none⟩ = some (.string rd) := Row.cell_at rr 1 rfl
    have ss := rs.1
    have cs0 : V17.cell? ⟨W9.heap.size, 0, none⟩ = some (.string sn) := Row.cell_at rs 0 rfl
    have cs1 : V17.cell? ⟨W9.heap.size, 1, none⟩ = some (.string sd) := Row.cell_at rs 1 rfl
    have sg := rg.1
    have cg0 : V17.cell? ⟨g, 0, none⟩ = some (.string Aln) := Row.cell_take rg xg rfl
    have cg1 : V17.cell? ⟨g, 1, none⟩ = some (.string Ald) := Row.cell_take rg xg rfl
    have cg2 : V17.cell? ⟨g, 2, none⟩ = some (.string Ahn) := Row.cell_take rg xg rfl
    have cg3 : V17.cell? ⟨g, 3, none⟩ = some (.string Ahd) := Row.cell_take rg xg rfl
    have cg4 : V17.cell? ⟨g, 4, none⟩ = some (.string Dln) := Row.cell_take rg xg rfl
    have cg5 : V17.cell? ⟨g, 5, none⟩ = some (.string Dld) := Row.cell_take rg xg rfl
    have cg6 : V17.cell? ⟨g, 6, none⟩ = some (.string Dhn) := Row.cell_take rg xg rfl
    have cg7 : V17.cell? ⟨g, 7, none⟩ = some (.string Dhd) := Row.cell_take rg xg rfl
    have cg8 : V17.cell? ⟨g, 8, none⟩ = some (.string Mln) := Row.cell_take rg xg rfl
    have cg9 : V17.cell? ⟨g, 9, none⟩ = some (.string Mld) := Row.cell_take rg xg rfl
    have cg10 : V17.cell? ⟨g, 10, none⟩ = some (.string Mhn) := Row.cell_take rg xg rfl
    have cg11 : V17.cell? ⟨g, 11, none⟩ = some (.string Mhd) := Row.cell_take rg xg rfl
    have sh := rh.1
    have ch0 : V17.cell? ⟨h, 0, none⟩ = some (.int .i64 0) := Row.cell_take rh xh rfl
    have ch1 : V17.cell? ⟨h, 1, none⟩ = some (.int .i64 0) := Row.cell_take rh xh rfl
    have ch2 : V17.cell? ⟨h, 2, none⟩ = some (.int .i64 0) := Row.cell_take rh xh rfl
    have ch3 : V17.cell? ⟨h, 3, none⟩ = some (.int .i64 50) := Row.cell_take rh xh rfl
    have ssu := rsu.1
    have csu0 : V17.cell? ⟨W12.heap.size, 0, none⟩ = some (.string ran) := Row.cell_at rsu 0 rfl
    have csu1 : V17.cell? ⟨W12.heap.size, 1, none⟩ = some (.string rad) := Row.cell_at rsu 1 rfl
    have sdi := rdi.1
    have cdi0 : V17.cell? ⟨W14.heap.size, 0, none⟩ = some (.string rdn) := Row.cell_at rdi 0 rfl
    have cdi1 : V17.cell? ⟨W14.heap.size, 1, none⟩ = some (.string rdd) := Row.cell_at rdi 1 rfl
    have spr := rpr.1
    have cpr0 : V17.cell? ⟨W16.heap.size, 0, none⟩ = some (.string rmn) := Row.cell_at rpr 0 rfl
    have cpr1 : V17.cell? ⟨W16.heap.size, 1, none⟩ = some (.string rmd) := Row.cell_at rpr 1 rfl
    clear sb cb0 cb1 cb2 cb3
    clear sr cr0 cr1
    clear ss cs0 cs1
    clear sg cg0 cg1 cg2 cg3 cg4 cg5 cg6 cg7 cg8 cg9 cg10 cg11
    clear sh ch0 ch1 ch2 ch3
    clear ssu csu0 csu1
    clear sdi cdi0 cdi1
    clear spr cpr0 cpr1
    have KK12 : ∀ X, Row X (g) (.cells gs 29) → Row X (W12.heap.size) (.cells #[.string ran, .string rad] 26) → Row X (W14.heap.size) (.cells #[.string rdn, .string rdd] 26) → Row X (W16.heap.size) (.cells #[.string rmn, .string rmd] 26) → (X.cell? ⟨g, 0, none⟩ = some (.string Aln) ∧ X.cell? ⟨g, 1, none⟩ = some (.string Ald) ∧ X.cell? ⟨g, 2, none⟩ = some (.string Ahn) ∧ X.cell? ⟨g, 3, none⟩ = some (.string Ahd) ∧ X.cell? ⟨W12.heap.size, 0, none⟩ = some (.string ran) ∧ X.cell? ⟨W12.heap.size, 1, none⟩ = some (.string rad) ∧ X.cell? ⟨g, 4, none⟩ = some (.string Dln) ∧ X.cell? ⟨g, 5, none⟩ = some (.string Dld) ∧ X.cell? ⟨g, 6, none⟩ = some (.string Dhn) ∧ X.cell? ⟨g, 7, none⟩ = some (.string Dhd) ∧ X.cell? ⟨W14.heap.size, 0, none⟩ = some (.string rdn) ∧ X.cell? ⟨W14.heap.size, 1, none⟩ = some (.string rdd) ∧ X.cell? ⟨g, 8, none⟩ = some (.string Mln) ∧ X.cell? ⟨g, 9, none⟩ = some (.string Mld) ∧ X.cell? ⟨g, 10, none⟩ = some (.string Mhn) ∧ X.cell? ⟨g, 11, none⟩ = some (.string Mhd) ∧ X.cell? ⟨W16.heap.size, 0, none⟩ = some (.string rmn) ∧ X.cell? ⟨W16.heap.size, 1, none⟩ = some (.string rmd)) := fun X hg hsu hdi hpr => ⟨Row.cell_take hg xg rfl, Row.cell_take hg xg rfl, Row.cell_take hg xg rfl, Row.cell_take hg xg rfl, Row.cell_at hsu 0 rfl, Row.cell_at hsu 1 rfl, Row.cell_take hg xg rfl, Row.cell_take hg xg rfl, Row.cell_take hg xg rfl, Row.cell_take hg xg rfl, Row.cell_at hdi 0 rfl, Row.cell_at hdi 1 rfl, Row.cell_take hg xg rfl, Row.cell_take hg xg rfl, Row.cell_take hg xg rfl, Row.cell_take hg xg rfl, Row.cell_at hpr 0 rfl, Row.cell_at hpr 1 rfl⟩
    go_region_held3 (fun X => X.cell? ⟨g, 0, none⟩ = some (.string Aln) ∧ X.cell? ⟨g, 1, none⟩ = some (.string Ald) ∧ X.cell? ⟨g, 2, none⟩ = some (.string Ahn) ∧ X.cell? ⟨g, 3, none⟩ = some (.string Ahd) ∧ X.cell? ⟨W12.heap.size, 0, none⟩ = some (.string ran) ∧ X.cell? ⟨W12.heap.size, 1, none⟩ = some (.string rad) ∧ X.cell? ⟨g, 4, none⟩ = some (.string Dln) ∧ X.cell? ⟨g, 5, none⟩ = some (.string Dld) ∧ X.cell? ⟨g, 6, none⟩ = some (.string Dhn) ∧ X.cell? ⟨g, 7, none⟩ = some (.string Dhd) ∧ X.cell? ⟨W14.heap.size, 0, none⟩ = some (.string rdn) ∧ X.cell? ⟨W14.heap.size, 1, none⟩ = some (.string rdd) ∧ X.cell? ⟨g, 8, none⟩ = some (.string Mln) ∧ X.cell? ⟨g, 9, none⟩ = some (.string Mld) ∧ X.cell? ⟨g, 10, none⟩ = some (.string Mhn) ∧ X.cell? ⟨g, 11, none⟩ = some (.string Mhd) ∧ X.cell? ⟨W16.heap.size, 0, none⟩ = some (.string rmn) ∧ X.cell? ⟨W16.heap.size, 1, none⟩ = some (.string rmd)) (first | exact KK12 _ (by repeat (first | (with_reducible exact rg) | (with_reducible exact row_new' (by first | omega | (simp; done) | (simp; omega))) | (with_reducible refine Row.drew ?_) | (with_reducible refine Row.drewN ?_ _) | (with_reducible refine Row.alloc ?_ _) | (with_reducible apply Row.set4) | (with_reducible apply Row.set4a) | (with_reducible apply Row.set4b) | (with_reducible apply Row.set2) | (with_reducible apply Row.set1) | (with_reducible refine Row.set_other ?_ _ (by first | omega | (simp; done) | (simp; omega))))) (by repeat (first | (with_reducible exact rsu) | (with_reducible exact row_new' (by first | omega | (simp; done) | (simp; omega))) | (with_reducible refine Row.drew ?_) | (with_reducible refine Row.drewN ?_ _) | (with_reducible refine Row.alloc ?_ _) | (with_reducible apply Row.set4) | (with_reducible apply Row.set4a) | (with_reducible apply Row.set4b) | (with_reducible apply Row.set2) | (with_reducible apply Row.set1) | (with_reducible refine Row.set_other ?_ _ (by first | omega | (simp; done) | (simp; omega))))) (by repeat (first | (with_reducible exact rdi) | (with_reducible exact row_new' (by first | omega | (simp; done) | (simp; omega))) | (with_reducible refine Row.drew ?_) | (with_reducible refine Row.drewN ?_ _) | (with_reducible refine Row.alloc ?_ _) | (with_reducible apply Row.set4) | (with_reducible apply Row.set4a) | (with_reducible apply Row.set4b) | (with_reducible apply Row.set2) | (with_reducible apply Row.set1) | (with_reducible refine Row.set_other ?_ _ (by first | omega | (simp; done) | (simp; omega))))) (by repeat (first | (with_reducible exact rpr) | (with_reducible exact row_new' (by first | omega | (simp; done) | (simp; omega))) | (with_reducible refine Row.drew ?_) | (with_reducible refine Row.drewN ?_ _) | (with_reducible refine Row.alloc ?_ _) | (with_reducible apply Row.set4) | (with_reducible apply Row.set4a) | (with_reducible apply Row.set4b) | (with_reducible apply Row.set2) | (with_reducible apply Row.set1) | (with_reducible refine Row.set_other ?_ _ (by first | omega | (simp; done) | (simp; omega)))))) (first
        | (go_at_call 22; with_reducible refine (C0 _ (by first | exact he.env.below hB | exact he.env.below hB.drew | exact he.env.below (below_drewN hB _))).mono ?_; rintro e W ⟨rfl, h1⟩; (try replace h1 := below_of_drew h1); replace hB := hB.trans (h1.mono hB.size); replace rb := Row.below rb h1; replace rr := Row.below rr h1; replace rs := Row.below rs h1; replace rg := Row.below rg h1; replace rh := Row.below rh h1; replace rsu := Row.below rsu h1; replace rdi := Row.below rdi h1; replace rpr := Row.below rpr h1)
        | (go_at_call 22; with_reducible refine (C1 _ (by first | exact he.env.below hB | exact he.env.below hB.drew | exact he.env.below (below_drewN hB _))).mono ?_; rintro e W ⟨rfl, h1⟩; (try replace h1 := below_of_drew h1); replace hB := hB.trans (h1.mono hB.size); replace rb := Row.below rb h1; replace rr := Row.below rr h1; replace rs := Row.below rs h1; replace rg := Row.below rg h1; replace rh := Row.below rh h1; replace rsu := Row.below rsu h1; replace rdi := Row.below rdi h1; replace rpr := Row.below rpr h1)
        | (go_at_call 22; with_reducible refine (C2 _ (by first | exact he.env.below hB | exact he.env.below hB.drew | exact he.env.below (below_drewN hB _))).mono ?_; rintro e W ⟨rfl, h1⟩; (try replace h1 := below_of_drew h1); replace hB := hB.trans (h1.mono hB.size); replace rb := Row.below rb h1; replace rr := Row.below rr h1; replace rs := Row.below rs h1; replace rg := Row.below rg h1; replace rh := Row.below rh h1; replace rsu := Row.below rsu h1; replace rdi := Row.below rdi h1; replace rpr := Row.below rpr h1))
    clear KK12
    have sb := rb.1
    have cb0 : W.cell? ⟨W5.heap.size, 0, none⟩ = some (.string bln) := Row.cell_at rb 0 rfl
    have cb1 : W.cell? ⟨W5.heap.size, 1, none⟩ = some (.string bld) := Row.cell_at rb 1 rfl
    have cb2 : W.cell? ⟨W5.heap.size, 2, none⟩ = some (.string bhn) := Row.cell_at rb 2 rfl
    have cb3 : W.cell? ⟨W5.heap.size, 3, none⟩ = some (.string bhd) := Row.cell_at rb 3 rfl
    have sr := rr.1
    have cr0 : W.cell? ⟨W7.heap.size, 0, none⟩ = some (.string rn) := Row.cell_at rr 0 rfl
    have cr1 : W.cell? ⟨W7.heap.size, 1, none⟩ = some (.string rd) := Row.cell_at rr 1 rfl
    have ss := rs.1
    have cs0 : W.cell? ⟨W9.heap.size, 0, none⟩ = some (.string sn) := Row.cell_at rs 0 rfl
    have cs1 : W.cell? ⟨W9.heap.size, 1, none⟩ = some (.string sd) := Row.cell_at rs 1 rfl
    have sg := rg.1
    have cg0 : W.cell? ⟨g, 0, none⟩ = some (.string Aln) := Row.cell_take rg xg rfl
    have cg1 : W.cell? ⟨g, 1, none⟩ = some (.string Ald) := Row.cell_take rg xg rfl
    have cg2 : W.cell? ⟨g, 2, none⟩ = some (.string Ahn) := Row.cell_take rg xg rfl
    have cg3 : W.cell? ⟨g, 3, none⟩ = some (.string Ahd) := Row.cell_take rg xg rfl
    have cg4 : W.cell? ⟨g, 4, none⟩ = some (.string Dln) := Row.cell_take rg xg rfl
    have cg5 : W.cell? ⟨g, 5, none⟩ = some (.string Dld) := Row.cell_take rg xg rfl
    have cg6 : W.cell? ⟨g, 6, none⟩ = some (.string Dhn) := Row.cell_take rg xg rfl
    have cg7 : W.cell? ⟨g, 7, none⟩ = some (.string Dhd) := Row.cell_take rg xg rfl
    have cg8 : W.cell? ⟨g, 8, none⟩ = some (.string Mln) := Row.cell_take rg xg rfl
    have cg9 : W.cell? ⟨g, 9, none⟩ = some (.string Mld) := Row.cell_take rg xg rfl
    have cg10 : W.cell? ⟨g, 10, none⟩ = some (.string Mhn) := Row.cell_take rg xg rfl
    have cg11 : W.cell? ⟨g, 11, none⟩ = some (.string Mhd) := Row.cell_take rg xg rfl
    have sh := rh.1
    have ch0 : W.cell? ⟨h, 0, none⟩ = some (.int .i64 0) := Row.cell_take rh xh rfl
    have ch1 : W.cell? ⟨h, 1, none⟩ = some (.int .i64 0) := Row.cell_take rh xh rfl
    have ch2 : W.cell? ⟨h, 2, none⟩ = some (.int .i64 0) := Row.cell_take rh xh rfl
    have ch3 : W.cell? ⟨h, 3, none⟩ = some (.int .i64 50) := Row.cell_take rh xh rfl
    have ssu := rsu.1
    have csu0 : W.cell? ⟨W12.heap.size, 0, none⟩ = some (.string ran) := Row.cell_at rsu 0 rfl
    have csu1 : W.cell? ⟨W12.heap.size, 1, none⟩ = some (.string rad) := Row.cell_at rsu 1 rfl
    have sdi := rdi.1
    have cdi0 : W.cell? ⟨W14.heap.size, 0, none⟩ = some (.string rdn) := Row.cell_at rdi 0 rfl
    have cdi1 : W.cell? ⟨W14.heap.size, 1, none⟩ = some (.string rdd) := Row.cell_at rdi 1 rfl
    have spr := rpr.1
    have cpr0 : W.cell? ⟨W16.heap.size, 0, none⟩ = some (.string rmn) := Row.cell_at rpr 0 rfl
    have cpr1 : W.cell? ⟨W16.heap.size, 1, none⟩ = some (.string rmd) := Row.cell_at rpr 1 rfl
    go_wp2_with fail
    clear rsu
    clear ssu csu0 csu1
    clear rdi
    clear sdi cdi0 cdi1
    clear rpr
    clear spr cpr0 cpr1
    clear sb cb0 cb1 cb2 cb3
    clear sr cr0 cr1
    clear ss cs0 cs1
    clear sg cg0 cg1 cg2 cg3 cg4 cg5 cg6 cg7 cg8 cg9 cg10 cg11
    clear sh ch0 ch1 ch2 ch3
    have KK14 : ∀ X, Row X (W5.heap.size) (.cells #[.string bln, .string bld, .string bhn, .string bhd] 29) → (X.cell? ⟨W5.heap.size, 0, none⟩ = some (.string bln) ∧ X.cell? ⟨W5.heap.size, 1, none⟩ = some (.string bld) ∧ X.cell? ⟨W5.heap.size, 2, none⟩ = some (.string bhn) ∧ X.cell? ⟨W5.heap.size, 3, none⟩ = some (.string bhd)) := fun X hb => ⟨Row.cell_at hb 0 rfl, Row.cell_at hb 1 rfl, Row.cell_at hb 2 rfl, Row.cell_at hb 3 rfl⟩
    go_region_held3 (fun X => X.cell? ⟨W5.heap.size, 0, none⟩ = some (.string bln) ∧ X.cell? ⟨W5.heap.size, 1, none⟩ = some (.string bld) ∧ X.cell? ⟨W5.heap.size, 2, none⟩ = some (.string bhn) ∧ X.cell? ⟨W5.heap.size, 3, none⟩ = some (.string bhd)) (first | exact KK14 _ (by repeat (first | (with_reducible exact rb) | (with_reducible exact row_new' (by first | omega | (simp; done) | (simp; omega))) | (with_reducible refine Row.drew ?_) | (with_reducible refine Row.drewN ?_ _) | (with_reducible refine Row.alloc ?_ _) | (with_reducible apply Row.set4) | (with_reducible apply Row.set4a) | (with_reducible apply Row.set4b) | (with_reducible apply Row.set2) | (with_reducible apply Row.set1) | (with_reducible refine Row.set_other ?_ _ (by first | omega | (simp; done) | (simp; omega)))))) (first
        | (go_at_call 15; with_reducible refine (R0 _).mono ?_; rintro e W ⟨rfl, h1⟩; (try replace h1 := below_of_drew h1); replace hB := hB.trans (h1.mono hB.size); replace rb := Row.below rb h1; replace rr := Row.below rr h1; replace rs := Row.below rs h1; replace rg := Row.below rg h1; replace rh := Row.below rh h1)
        | (go_at_call 22; with_reducible refine (CB _ (by first | exact he.env.below hB | exact he.env.below hB.drew | exact he.env.below (below_drewN hB _))).mono ?_; rintro e W ⟨rfl, h1⟩; (try replace h1 := below_of_drew h1); replace hB := hB.trans (h1.mono hB.size); replace rb := Row.below rb h1; replace rr := Row.below rr h1; replace rs := Row.below rs h1; replace rg := Row.below rg h1; replace rh := Row.below rh h1))
    clear KK14
    have sb := rb.1
    have cb0 : W.cell? ⟨W5.heap.size, 0, none⟩ = some (.string bln) := Row.cell_at rb 0 rfl
    have cb1 : W.cell? ⟨W5.heap.size, 1, none⟩ = some (.string bld) := Row.cell_at rb 1 rfl
    have cb2 : W.cell? ⟨W5.heap.size, 2, none⟩ = some (.string bhn) := Row.cell_at rb 2 rfl
    have cb3 : W.cell? ⟨W5.heap.size, 3, none⟩ = some (.string bhd) := Row.cell_at rb 3 rfl
    have sr := rr.1
    have cr0 : W.cell? ⟨W7.heap.size, 0, none⟩ = some (.string rn) := Row.cell_at rr 0 rfl
    have cr1 : W.cell? ⟨W7.heap.size, 1, none⟩ = some (.string rd) := Row.cell_at rr 1 rfl
    have ss := rs.1
    have cs0 : W.cell? ⟨W9.heap.size, 0, none⟩ = some (.string sn) := Row.cell_at rs 0 rfl
    have cs1 : W.cell? ⟨W9.heap.size, 1, none⟩ = some (.string sd) := Row.cell_at rs 1 rfl
    have sg := rg.1
    have cg0 : W.cell? ⟨g, 0, none⟩ = some (.string Aln) := Row.cell_take rg xg rfl
    have cg1 : W.cell? ⟨g, 1, none⟩ = some (.string Ald) := Row.cell_take rg xg rfl
    have cg2 : W.cell? ⟨g, 2, none⟩ = some (.string Ahn) := Row.cell_take rg xg rfl
    have cg3 : W.cell? ⟨g, 3, none⟩ = some (.string Ahd) := Row.cell_take rg xg rfl
    have cg4 : W.cell? ⟨g, 4, none⟩ = some (.string Dln) := Row.cell_take rg xg rfl
    have cg5 : W.cell? ⟨g, 5, none⟩ = some (.string Dld) := Row.cell_take rg xg rfl
    have cg6 : W.cell? ⟨g, 6, none⟩ = some (.string Dhn) := Row.cell_take rg xg rfl
    have cg7 : W.cell? ⟨g, 7, none⟩ = some (.string Dhd) := Row.cell_take rg xg rfl
    have cg8 : W.cell? ⟨g, 8, none⟩ = some (.string Mln) := Row.cell_take rg xg rfl
    have cg9 : W.cell? ⟨g, 9, none⟩ = some (.string Mld) := Row.cell_take rg xg rfl
    have cg10 : W.cell? ⟨g, 10, none⟩ = some (.string Mhn) := Row.cell_take rg xg rfl
    have cg11 : W.cell? ⟨g, 11, none⟩ = some (.string Mhd) := Row.cell_take rg xg rfl
    have sh := rh.1
    have ch0 : W.cell? ⟨h, 0, none⟩ = some (.int .i64 0) := Row.cell_take rh xh rfl
    have ch1 : W.cell? ⟨h, 1, none⟩ = some (.int .i64 0) := Row.cell_take rh xh rfl
    have ch2 : W.cell? ⟨h, 2, none⟩ = some (.int .i64 0) := Row.cell_take rh xh rfl
    have ch3 : W.cell? ⟨h, 3, none⟩ = some (.int .i64 50) := Row.cell_take rh xh rfl
    go_wp2
    go_ret
    exact ⟨rfl, hB⟩
end Go.Proofs.YtbgagplpomfkkaaGreatDoor
