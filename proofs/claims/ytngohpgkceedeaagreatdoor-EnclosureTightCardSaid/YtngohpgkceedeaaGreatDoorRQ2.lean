/-
  The laws' inputs: small fractions, intervals of them, fractions inside; ratio and span.
-/
import Derived.Test.YtngohpgkceedeaaGreatDoorRQCmp
import Derived.Test.YtngohpgkceedeaaGreatDoorEOps
import Derived.Test.YtngohpgkceedeaaGreatDoorChains
set_option linter.unusedSimpArgs false
set_option linter.unusedVariables false
namespace Go.Proofs.YtngohpgkceedeaaGreatDoor
open Go Go.RowKit Go.Lib Go.Shelf

def QSome (Pr : Rat → Prop) (w : World) (e : Ending) (w' : World) : Prop := ∃ q, Pr q ∧ e = .returned (Q q) ∧ Below w.heap.size w w'
theorem small_dig {n d : Int} (h1 : n.natAbs < 1000) (h2 : 0 < d) (h3 : d < 1000) : QDig 3 (Rat.divInt n d) := QDig.ofInt h2 (by unfold Dig; omega) (by unfold Dig; omega)
theorem wrap_sub999 {r : Nat} (h : (r : Int) < 1999) : IntKind.i64.wrap ((r : Int) - 999) = (r : Int) - 999 := by rw [IntKind.wrap_i64]; omega
theorem wrap_add1 {r : Nat} (h : (r : Int) < 60) : IntKind.i64.wrap (1 + (r : Int)) = 1 + (r : Int) := by rw [IntKind.wrap_i64]; omega
theorem with_fact {p q : Prop} (h : p) (k : p → q) : q := k h
theorem Row.lt {W : World} {b : Nat} {o : Obj} (h : Row W b o) : b < W.heap.size := h.1
theorem below_step {a X W : World} (h1 : Below X.heap.size X W) (hX : Below a.heap.size a X) : Below a.heap.size a W := hX.trans (h1.mono hX.size)
set_option maxRecDepth 100000 in
set_option maxHeartbeats 4000000 in
theorem rsmall (x0 x1 : Int) (h0 : IsInt x0) (h1 : IsInt x1) (w : World) : Calls Tryz.prog 72 #[.agg #[.int .i64 x0, .int .i64 x1]] w (QSome (QDig 3) w) := by
  have M0 := fun W => pick4 x0 1999 h0 (by omega) (by omega) W
  have M1 := fun W => pick4 x1 60 h1 (by omega) (by omega) W
  have M2 := fun (n d : Int) (hn : IsInt n) (hd : IsInt d) (hd0 : 0 < d) W => rqof hn hd hd0 W
  unfold QOk Q at M2
  clear h0 h1
  have hB : Below w.heap.size w w := Below.refl _ _
  go_enter Tryz.func72, Tryz.ntmps72
  go_wp2_with fail
  refine wp_cut (fun X => Below w.heap.size w X ∧ Row X w.heap.size (.cells #[.int .i64 x0, .int .i64 x1] 50) ∧ Row X (w.heap.size + 1) (.cells #[.string ⟨#[]⟩, .string ⟨#[]⟩] 26)) ⟨C1_hB, C2, C2⟩ ?_
  clear hB
  rintro V ⟨hB, rx, ro⟩
  refine Code.wp_mono (Q := fun ex ac wx => ex = .normal ∧ ∃ (bo : Nat) (u4 u5 u6 u7 u8 u9 u10 u11 u12 u13 u14 u15 u16 u17 : Value) (q : Rat), ac = { tmps := #[.agg #[.int .i64 x0, .int .i64 x1], .pointer (some ⟨w.heap.size, 0, none⟩), .pointer (some ⟨w.heap.size + 1, 0, none⟩), .pointer (some ⟨bo, 0, none⟩), u4, u5, u6, u7, u8, u9, u10, u11, u12, u13, u14, u15, u16, u17], defers := [] } ∧ QDig 3 q ∧ Below w.heap.size w wx ∧ Row wx (w.heap.size + 1) (.cells #[.string ⟨#[]⟩, .string ⟨#[]⟩] 26) ∧ Row wx bo (.cells #[.string (S q.num), .string (S (q.den : Int))] 26) ∧ bo ≠ w.heap.size + 1) ?rest ?first
  case first =>
    have vlt : w.heap.size + 1 < V.heap.size := Row.lt ro
    have tok1 : True := trivial
    have KK : ∀ X, Row X w.heap.size (.cells #[.int .i64 x0, .int .i64 x1] 50) → (X.cell? ⟨w.heap.size, 0, none⟩ = some (.int .i64 x0) ∧ X.cell? ⟨w.heap.size, 1, none⟩ = some (.int .i64 x1)) := fun X h => ⟨(Row.cells2 h).2.1, (Row.cells2 h).2.2.1⟩
    go_region_held3 (fun X => X.cell? ⟨w.heap.size, 0, none⟩ = some (.int .i64 x0) ∧ X.cell? ⟨w.heap.size, 1, none⟩ = some (.int .i64 x1)) (first | exact KK _ C3_rx) (first
        | (go_at_call 56; have _t := tok1; with_reducible refine Calls.mono (M0 _) ?_; rintro e W ⟨⟨r1, rfl, g1⟩, rfl⟩; have e1 := wrap_sub999 g1; clear _t tok1; have tok2 : True := trivial)
        | (go_at_call 56; have _t := tok2; with_reducible refine Calls.mono (M1 _) ?_; rintro e W ⟨⟨r2, rfl, g2⟩, rfl⟩; have e2 := wrap_add1 g2; clear _t tok2; have tok3 : True := trivial)
        | (go_at_call 66; have _t := tok3; with_reducible refine Calls.mono (M2 _ _ ?ha ?hb ?hc _) ?_; (case ha => unfold IsInt; omega); (case hb => unfold IsInt; omega); (case hc => omega); rintro e W ⟨rfl, h1⟩; (first | (refine with_fact (p := Row W (V.heap.size) (.cells #[.string ⟨#[]⟩, .string ⟨#[]⟩] 26)) ?_ ?_; (focus (refine Row.below ?_ h1; (repeat (first | (with_reducible exact row_new' (by first | omega | (simp; done) | (simp; omega))) | (with_reducible refine Row.drew ?_) | (with_reducible refine Row.drewN ?_ _) | (with_reducible refine Row.alloc ?_ _) | (with_reducible apply Row.set4) | (with_reducible apply Row.set4a) | (with_reducible apply Row.set4b) | (with_reducible apply Row.set2) | (with_reducible apply Row.set1) | (with_reducible refine Row.set_other ?_ _ (by first | omega | (simp; done) | (simp; omega))))); done)); intro rz) | skip); replace rx : Row W w.heap.size (.cells #[.int .i64 x0, .int .i64 x1] 50) := Row.below C3_rx h1; replace ro : Row W (w.heap.size + 1) (.cells #[.string ⟨#[]⟩, .string ⟨#[]⟩] 26) := Row.below C3_ro h1; replace hB := below_step (a := w) h1 C1_hB; have dq : QDig 3 (Rat.divInt ((r1 : Int) - 999) (1 + (r2 : Int))) := small_dig (by omega) (by omega) (by omega); generalize Rat.divInt ((r1 : Int) - 999) (1 + (r2 : Int)) = q at *; clear _t tok3; (first | (refine with_fact (Row.cells2 rz) ?_; rintro ⟨_, z0, z1, zf0, zf1⟩) | skip)))
    all_goals (have wl2 := Row.lt ro; refine ⟨rfl, _, _, _, _, _, _, _, _, _, _, _, _, _, _, _, q, rfl, dq, ?_, ?_, ?_, ?_⟩)
    all_goals first | (with_reducible exact hB) | (with_reducible exact ro) | ((repeat (first | (with_reducible exact hB) | (with_reducible exact Below.refl _ _) | (with_reducible refine Below.drew ?_) | (with_reducible refine below_drewN ?_ _) | (with_reducible refine Below.alloc ?_ (by first | omega | (simp; done) | (simp; omega)) _) | (with_reducible refine Below.setCell ?_ (by first | omega | (simp; done) | (simp; omega)) _))); done) | ((repeat (first | (with_reducible exact ro) | (with_reducible exact row_new' (by first | omega | (simp; done) | (simp; omega))) | (with_reducible refine Row.drew ?_) | (with_reducible refine Row.drewN ?_ _) | (with_reducible refine Row.alloc ?_ _) | (with_reducible apply Row.set4) | (with_reducible apply Row.set4a) | (with_reducible apply Row.set4b) | (with_reducible apply Row.set2) | (with_reducible apply Row.set1) | (with_reducible refine Row.set_other ?_ _ (by first | omega | (simp; done) | (simp; omega))))); done) | ((repeat (first | (with_reducible exact rz) | (with_reducible exact row_new' (by first | omega | (simp; done) | (simp; omega))) | (with_reducible refine Row.drew ?_) | (with_reducible refine Row.drewN ?_ _) | (with_reducible refine Row.alloc ?_ _) | (with_reducible apply Row.set4) | (with_reducible apply Row.set4a) | (with_reducible apply Row.set4b) | (with_reducible apply Row.set2) | (with_reducible apply Row.set1) | (with_reducible refine Row.set_other ?_ _ (by first | omega | (simp; done) | (simp; omega))))); done) | ((repeat (first | (with_reducible exact row_new' (by first | omega | (simp; done) | (simp; omega))) | (with_reducible refine Row.drew ?_) | (with_reducible refine Row.drewN ?_ _) | (with_reducible refine Row.alloc ?_ _) | (with_reducible apply Row.set4) | (with_reducible apply Row.set4a) | (with_reducible apply Row.set4b) | (with_reducible apply Row.set2) | (with_reducible apply Row.set1) | (with_reducible refine Row.set_other ?_ _ (by first | omega | (simp; done) | (simp; omega))))); done) | omega
  case rest =>
    clear M0 M1 M2 rx ro hB
    rintro ex ac wx ⟨rfl, bo, u4, u5, u6, u7, u8, u9, u10, u11, u12, u13, u14, u15, u16, u17, q, rfl, dq, hB, ro, rz, hne⟩
    obtain ⟨so, co0, co1, fo0, fo1⟩ := Row.cells2 ro
    obtain ⟨sz, cz0, cz1, fz0, fz1⟩ := Row.cells2 rz
    go_wp2
    have sB := hB.size
    refine post_cut (fun X => Below w.heap.size w X ∧ Row X (w.heap.size + 1) (.cells #[.string (S q.num), .string (S (q.den : Int))] 26) ∧ Row X bo (.cells #[.string (S q.num), .string (S (q.den : Int))] 26)) ⟨C1_hB, C3_ro, C3_rz⟩ ?_
    clear ro
    clear so co0 co1 fo0 fo1
    clear rz
    clear sz cz0 cz1 fz0 fz1
    clear hB sB
    rintro V1 ⟨hB, ro, rz⟩
    obtain ⟨so, co0, co1, fo0, fo1⟩ := Row.cells2 ro
    obtain ⟨sz, cz0, cz1, fz0, fz1⟩ := Row.cells2 rz
    refine bodyPost_ret (v := .agg #[.string (S q.num), .string (S (q.den : Int))]) ?res rfl ⟨q, dq, rfl, hB⟩
    case res => simp [results, Tryz.results72, go_sem, co0, co1]
def leastQ (a b : Rat) : Rat := if a ≤ b then a else b
def mostQ (a b : Rat) : Rat := if b ≤ a then a else b
theorem least_most (a b : Rat) : leastQ a b ≤ mostQ a b := by unfold leastQ mostQ; split <;> split <;> grind
theorem leastQ_dig {k : Nat} {a b : Rat} (ha : QDig k a) (hb : QDig k b) : QDig k (leastQ a b) := by unfold leastQ; split <;> assumption
theorem mostQ_dig {k : Nat} {a b : Rat} (ha : QDig k a) (hb : QDig k b) : QDig k (mostQ a b) := by unfold mostQ; split <;> assumption
set_option maxRecDepth 100000 in
set_option maxHeartbeats 4000000 in
theorem least_a (a b : Rat) (ha : QDig 200 a) (hb : QDig 200 b) (h : a ≤ b) (w : World) : Calls Tryz.prog 73 #[Q a, Q b] w (QIs a w) := by
  have hB : Below w.heap.size w w := Below.refl _ _
  have M := fun W => rqcompare a b ha hb W
  have g1 : cmpQ a b ≤ 0 := cmpQ_le.2 h
  clear ha hb h
  generalize cmpQ a b = g at *
  unfold QIs Q
  go_enter Tryz.func73, Tryz.ntmps73
  go_wp2_with fail
  have sB := hB.size
  refine world_cut (fun X => Below w.heap.size w X ∧ Row X w.heap.size (.cells #[.string (S a.num), .string (S (a.den : Int))] 26) ∧ Row X (w.heap.size + 1) (.cells #[.string (S b.num), .string (S (b.den : Int))] 26) ∧ Row X (w.heap.size + 1 + 1) (.cells #[.string ⟨#[]⟩, .string ⟨#[]⟩] 26)) ⟨C1_hB, C2, C2, C2⟩ ?_
  clear hB sB
  rintro V1 ⟨hB, ra, rb, ro⟩
  obtain ⟨sa, ca0, ca1, fa0, fa1⟩ := Row.cells2 ra
  obtain ⟨sb, cb0, cb1, fb0, fb1⟩ := Row.cells2 rb
  obtain ⟨so, co0, co1, fo0, fo1⟩ := Row.cells2 ro
  refine (M _).mono ?_
  rintro e W2 ⟨rfl, h1⟩
  clear sa ca0 ca1 fa0 fa1
  clear sb cb0 cb1 fb0 fb1
  clear so co0 co1 fo0 fo1
  replace hB := hB.trans (h1.mono hB.size)
  replace ra := Row.below ra h1
  replace rb := Row.below rb h1
  replace ro := Row.below ro h1
  clear h1
  obtain ⟨sa, ca0, ca1, fa0, fa1⟩ := Row.cells2 ra
  obtain ⟨sb, cb0, cb1, fb0, fb1⟩ := Row.cells2 rb
  obtain ⟨so, co0, co1, fo0, fo1⟩ := Row.cells2 ro
  go_wp2
  have sB := hB.size
  refine post_cut (fun X => Below w.heap.size w X ∧ Row X w.heap.size (.cells #[.string (S a.num), .string (S (a.den : Int))] 26) ∧ Row X (w.heap.size + 1) (.cells #[.string (S b.num), .string (S (b.den : Int))] 26) ∧ Row X (w.heap.size + 1 + 1) (.cells #[.string (S a.num), .string (S (a.den : Int))] 26)) ⟨C1_hB, C3_ra, C3_rb, C3_ro⟩ ?_
  clear ra
  clear sa ca0 ca1 fa0 fa1
  clear rb
  clear sb cb0 cb1 fb0 fb1
  clear ro
  clear so co0 co1 fo0 fo1
  clear hB sB
  rintro V3 ⟨hB, ra, rb, ro⟩
  obtain ⟨sa, ca0, ca1, fa0, fa1⟩ := Row.cells2 ra
  obtain ⟨sb, cb0, cb1, fb0, fb1⟩ := Row.cells2 rb
  obtain ⟨so, co0, co1, fo0, fo1⟩ := Row.cells2 ro
  refine bodyPost_ret (v := .agg #[.string (S a.num), .string (S (a.den : Int))]) ?res rfl ⟨rfl, hB⟩
  case res => simp [results, Tryz.results73, go_sem, co0, co1]
set_option maxRecDepth 100000 in
set_option maxHeartbeats 4000000 in
theorem least_b (a b : Rat) (ha : QDig 200 a) (hb : QDig 200 b) (h : ¬ a ≤ b) (w : World) : Calls Tryz.prog 73 #[Q a, Q b] w (QIs b w) := by
  have hB : Below w.heap.size w w := Below.refl _ _
  have M := fun W => rqcompare a b ha hb W
  have g1 : ¬ cmpQ a b ≤ 0 := fun g => h (cmpQ_le.1 g)
  clear ha hb h
  generalize cmpQ a b = g at *
  unfold QIs Q
  go_enter Tryz.func73, Tryz.ntmps73
  go_wp2_with fail
  have sB := hB.size
  refine world_cut (fun X => Below w.heap.size w X ∧ Row X w.heap.size (.cells #[.string (S a.num), .string (S (a.den : Int))] 26) ∧ Row X (w.heap.size + 1) (.cells #[.string (S b.num), .string (S (b.den : Int))] 26) ∧ Row X (w.heap.size + 1 + 1) (.cells #[.string ⟨#[]⟩, .string ⟨#[]⟩] 26)) ⟨C1_hB, C2, C2, C2⟩ ?_
  clear hB sB
  rintro V1 ⟨hB, ra, rb, ro⟩
  obtain ⟨sa, ca0, ca1, fa0, fa1⟩ := Row.cells2 ra
  obtain ⟨sb, cb0, cb1, fb0, fb1⟩ := Row.cells2 rb
  obtain ⟨so, co0, co1, fo0, fo1⟩ := Row.cells2 ro
  refine (M _).mono ?_
  rintro e W2 ⟨rfl, h1⟩
  clear sa ca0 ca1 fa0 fa1
  clear sb cb0 cb1 fb0 fb1
  clear so co0 co1 fo0 fo1
  replace hB := hB.trans (h1.mono hB.size)
  replace ra := Row.below ra h1
  replace rb := Row.below rb h1
  replace ro := Row.below ro h1
  clear h1
  obtain ⟨sa, ca0, ca1, fa0, fa1⟩ := Row.cells2 ra
  obtain ⟨sb, cb0, cb1, fb0, fb1⟩ := Row.cells2 rb
  obtain ⟨so, co0, co1, fo0, fo1⟩ := Row.cells2 ro
  go_wp2
  have sB := hB.size
  refine post_cut (fun X => Below w.heap.size w X ∧ Row X w.heap.size (.cells #[.string (S a.num), .string (S (a.den : Int))] 26) ∧ Row X (w.heap.size + 1) (.cells #[.string (S b.num), .string (S (b.den : Int))] 26) ∧ Row X (w.heap.size + 1 + 1) (.cells #[.string (S b.num), .string (S (b.den : Int))] 26)) ⟨C1_hB, C3_ra, C3_rb, C3_ro⟩ ?_
  clear ra
  clear sa ca0 ca1 fa0 fa1
  clear rb
  clear sb cb0 cb1 fb0 fb1
  clear ro
  clear so co0 co1 fo0 fo1
  clear hB sB
  rintro V3 ⟨hB, ra, rb, ro⟩
  obtain ⟨sa, ca0, ca1, fa0, fa1⟩ := Row.cells2 ra
  obtain ⟨sb, cb0, cb1, fb0, fb1⟩ := Row.cells2 rb
  obtain ⟨so, co0, co1, fo0, fo1⟩ := Row.cells2 ro
  refine bodyPost_ret (v := .agg #[.string (S b.num), .string (S (b.den : Int))]) ?res rfl ⟨rfl, hB⟩
  case res => simp [results, Tryz.results73, go_sem, co0, co1]
set_option maxRecDepth 100000 in
set_option maxHeartbeats 4000000 in
theorem most_a (a b : Rat) (ha : QDig 200 a) (hb : QDig 200 b) (h : b ≤ a) (w : World) : Calls Tryz.prog 74 #[Q a, Q b] w (QIs a w) := by
  have hB : Below w.heap.size w w := Below.refl _ _
  have M := fun W => rqcompare a b ha hb W
  have g1 : 0 ≤ cmpQ a b := cmpQ_ge.2 h
  clear ha hb h
  generalize cmpQ a b = g at *
  unfold QIs Q
  go_enter Tryz.func74, Tryz.ntmps74
  go_wp2_with fail
  have sB := hB.size
  refine world_cut (fun X => Below w.heap.size w X ∧ Row X w.heap.size (.cells #[.string (S a.num), .string (S (a.den : Int))] 26) ∧ Row X (w.heap.size + 1) (.cells #[.string (S b.num), .string (S (b.den : Int))] 26) ∧ Row X (w.heap.size + 1 + 1) (.cells #[.string ⟨#[]⟩, .string ⟨#[]⟩] 26)) ⟨C1_hB, C2, C2, C2⟩ ?_
  clear hB sB
  rintro V1 ⟨hB, ra, rb, ro⟩
  obtain ⟨sa, ca0, ca1, fa0, fa1⟩ := Row.cells2 ra
  obtain ⟨sb, cb0, cb1, fb0, fb1⟩ := Row.cells2 rb
  obtain ⟨so, co0, co1, fo0, fo1⟩ := Row.cells2 ro
  refine (M _).mono ?_
  rintro e W2 ⟨rfl, h1⟩
  clear sa ca0 ca1 fa0 fa1
  clear sb cb0 cb1 fb0 fb1
  clear so co0 co1 fo0 fo1
  replace hB := hB.trans (h1.mono hB.size)
  replace ra := Row.below ra h1
  replace rb := Row.below rb h1
  replace ro := Row.below ro h1
  clear h1
  obtain ⟨sa, ca0, ca1, fa0, fa1⟩ := Row.cells2 ra
  obtain ⟨sb, cb0, cb1, fb0, fb1⟩ := Row.cells2 rb
  obtain ⟨so, co0, co1, fo0, fo1⟩ := Row.cells2 ro
  go_wp2
  have sB := hB.size
  refine post_cut (fun X => Below w.heap.size w X ∧ Row X w.heap.size (.cells #[.string (S a.num), .string (S (a.den : Int))] 26) ∧ Row X (w.heap.size + 1) (.cells #[.string (S b.num), .string (S (b.den : Int))] 26) ∧ Row X (w.heap.size + 1 + 1) (.cells #[.string (S a.num), .string (S (a.den : Int))] 26)) ⟨C1_hB, C3_ra, C3_rb, C3_ro⟩ ?_
  clear ra
  clear sa ca0 ca1 fa0 fa1
  clear rb
  clear sb cb0 cb1 fb0 fb1
  clear ro
  clear so co0 co1 fo0 fo1
  clear hB sB
  rintro V3 ⟨hB, ra, rb, ro⟩
  obtain ⟨sa, ca0, ca1, fa0, fa1⟩ := Row.cells2 ra
  obtain ⟨sb, cb0, cb1, fb0, fb1⟩ := Row.cells2 rb
  obtain ⟨so, co0, co1, fo0, fo1⟩ := Row.cells2 ro
  refine bodyPost_ret (v := .agg #[.string (S a.num), .string (S (a.den : Int))]) ?res rfl ⟨rfl, hB⟩
  case res => simp [results, Tryz.results74, go_sem, co0, co1]
set_option maxRecDepth 100000 in
set_option maxHeartbeats 4000000 in
theorem most_b (a b : Rat) (ha : QDig 200 a) (hb : QDig 200 b) (h : ¬ b ≤ a) (w : World) : Calls Tryz.prog 74 #[Q a, Q b] w (QIs b w) := by
  have hB : Below w.heap.size w w := Below.refl _ _
  have M := fun W => rqcompare a b ha hb W
  have g1 : ¬ 0 ≤ cmpQ a b := fun g => h (cmpQ_ge.1 g)
  clear ha hb h
  generalize cmpQ a b = g at *
  unfold QIs Q
  go_enter Tryz.func74, Tryz.ntmps74
  go_wp2_with fail
  have sB := hB.size
  refine world_cut (fun X => Below w.heap.size w X ∧ Row X w.heap.size (.cells #[.string (S a.num), .string (S (a.den : Int))] 26) ∧ Row X (w.heap.size + 1) (.cells #[.string (S b.num), .string (S (b.den : Int))] 26) ∧ Row X (w.heap.size + 1 + 1) (.cells #[.string ⟨#[]⟩, .string ⟨#[]⟩] 26)) ⟨C1_hB, C2, C2, C2⟩ ?_
  clear hB sB
  rintro V1 ⟨hB, ra, rb, ro⟩
  obtain ⟨sa, ca0, ca1, fa0, fa1⟩ := Row.cells2 ra
  obtain ⟨sb, cb0, cb1, fb0, fb1⟩ := Row.cells2 rb
  obtain ⟨so, co0, co1, fo0, fo1⟩ := Row.cells2 ro
  refine (M _).mono ?_
  rintro e W2 ⟨rfl, h1⟩
  clear sa ca0 ca1 fa0 fa1
  clear sb cb0 cb1 fb0 fb1
  clear so co0 co1 fo0 fo1
  replace hB := hB.trans (h1.mono hB.size)
  replace ra := Row.below ra h1
  replace rb := Row.below rb h1
  replace ro := Row.below ro h1
  clear h1
  obtain ⟨sa, ca0, ca1, fa0, fa1⟩ := Row.cells2 ra
  obtain ⟨sb, cb0, cb1, fb0, fb1⟩ := Row.cells2 rb
  obtain ⟨so, co0, co1, fo0, fo1⟩ := Row.cells2 ro
  go_wp2
  have sB := hB.size
  refine post_cut (fun X => Below w.heap.size w X ∧ Row X w.heap.size (.cells #[.string (S a.num), .string (S (a.den : Int))] 26) ∧ Row X (w.heap.size + 1) (.cells #[.string (S b.num), .string (S (b.den : Int))] 26) ∧ Row X (w.heap.size + 1 + 1) (.cells #[.string (S b.num), .string (S (b.den : Int))] 26)) ⟨C1_hB, C3_ra, C3_rb, C3_ro⟩ ?_
  clear ra
  clear sa ca0 ca1 fa0 fa1
  clear rb
  clear sb cb0 cb1 fb0 fb1
  clear ro
  clear so co0 co1 fo0 fo1
  clear hB sB
  rintro V3 ⟨hB, ra, rb, ro⟩
  obtain ⟨sa, ca0, ca1, fa0, fa1⟩ := Row.cells2 ra
  obtain ⟨sb, cb0, cb1, fb0, fb1⟩ := Row.cells2 rb
  obtain ⟨so, co0, co1, fo0, fo1⟩ := Row.cells2 ro
  refine bodyPost_ret (v := .agg #[.string (S b.num), .string (S (b.den : Int))]) ?res rfl ⟨rfl, hB⟩
  case res => simp [results, Tryz.results74, go_sem, co0, co1]
theorem rleast (a b : Rat) (ha : QDig 200 a) (hb : QDig 200 b) (w : World) : Calls Tryz.prog 73 #[Q a, Q b] w (QIs (leastQ a b) w) := by
  unfold leastQ
  split
  · rename_i h; exact least_a a b ha hb h w
  · rename_i h; exact least_b a b ha hb h w
theorem rmost (a b : Rat) (ha : QDig 200 a) (hb : QDig 200 b) (w : World) : Calls Tryz.prog 74 #[Q a, Q b] w (QIs (mostQ a b) w) := by
  unfold mostQ
  split
  · rename_i h; exact most_a a b ha hb h w
  · rename_i h; exact most_b a b ha hb h w
set_option maxRecDepth 100000 in
set_option maxHeartbeats 4000000 in
theorem rmade (x0 x1 x2 x3 : Int) (h0 : IsInt x0) (h1 : IsInt x1) (h2 : IsInt x2) (h3 : IsInt x3) (w : World) : Calls Tryz.prog 21 #[.agg #[.int .i64 x0, .int .i64 x1, .int .i64 x2, .int .i64 x3]] w (ivIs (fun a => IDig 3 a ∧ a.Ok) w) := by
  have M0 := fun W => rsmall x0 x1 h0 h1 W
  have M1 := fun W => rsmall x2 x3 h2 h3 W
  clear h0 h1 h2 h3
  have hB : Below w.heap.size w w := Below.refl _ _
  go_enter Tryz.func21, Tryz.ntmps21
  go_wp2_with fail
  have sB := hB.size
  refine world_cut (fun X => Below w.heap.size w X ∧ Row X w.heap.size (.cells #[.int .i64 x0, .int .i64 x1, .int .i64 x2, .int .i64 x3] 22) ∧ Row X (w.heap.size + 1) (.cells #[.string ⟨#[]⟩, .string ⟨#[]⟩, .string ⟨#[]⟩, .string ⟨#[]⟩] 29)) ⟨C1_hB, C2, C2⟩ ?_
  clear hB sB
  rintro V1 ⟨hB, rx, ro⟩
  obtain ⟨sx, cx0, cx1, cx2, cx3, fx0, fx1, fx2, fx3⟩ := Row.cells4 rx
  obtain ⟨so, co0, co1, co2, co3, fo0, fo1, fo2, fo3⟩ := Row.cells4 ro
  refine (M0 _).mono ?_
  rintro e W2 ⟨a, da, rfl, h1⟩
  clear sx cx0 cx1 cx2 cx3 fx0 fx1 fx2 fx3
  clear so co0 co1 co2 co3 fo0 fo1 fo2 fo3
  replace hB := hB.trans (h1.mono hB.size)
  replace rx := Row.below rx h1
  replace ro := Row.below ro h1
  clear h1
  obtain ⟨sx, cx0, cx1, cx2, cx3, fx0, fx1, fx2, fx3⟩ := Row.cells4 rx
  obtain ⟨so, co0, co1, co2, co3, fo0, fo1, fo2, fo3⟩ := Row.cells4 ro
  have xlt := ro.1
  unfold Q
  go_wp2_with fail
  have sB := hB.size
  refine world_cut (fun X => Below w.heap.size w X ∧ Row X w.heap.size (.cells #[.int .i64 x0, .int .i64 x1, .int .i64 x2, .int .i64 x3] 22) ∧ Row X (w.heap.size + 1) (.cells #[.string ⟨#[]⟩, .string ⟨#[]⟩, .string ⟨#[]⟩, .string ⟨#[]⟩] 29) ∧ Row X W2.heap.size (.cells #[.string (S a.num), .string (S (a.den : Int))] 26)) ⟨C1_hB, C3_rx, C3_ro, C2⟩ ?_
  clear rx
  clear sx cx0 cx1 cx2 cx3 fx0 fx1 fx2 fx3
  clear ro
  clear so co0 co1 co2 co3 fo0 fo1 fo2 fo3
  clear hB sB
  rintro V3 ⟨hB, rx, ro, ra⟩
  obtain ⟨sx, cx0, cx1, cx2, cx3, fx0, fx1, fx2, fx3⟩ := Row.cells4 rx
  obtain ⟨so, co0, co1, co2, co3, fo0, fo1, fo2, fo3⟩ := Row.cells4 ro
  obtain ⟨sa, ca0, ca1, fa0, fa1⟩ := Row.cells2 ra
  refine (M1 _).mono ?_
  rintro e WB ⟨b, db, rfl, h1⟩
  clear sx cx0 cx1 cx2 cx3 fx0 fx1 fx2 fx3
  clear so co0 co1 co2 co3 fo0 fo1 fo2 fo3
  clear sa ca0 ca1 fa0 fa1
  replace hB := hB.trans (h1.mono hB.size)
  replace rx := Row.below rx h1
  replace ro := Row.below ro h1
  replace ra := Row.below ra h1
  clear h1
  obtain ⟨sx, cx0, cx1, cx2, cx3, fx0, fx1, fx2, fx3⟩ := Row.cells4 rx
  obtain ⟨so, co0, co1, co2, co3, fo0, fo1, fo2, fo3⟩ := Row.cells4 ro
  obtain ⟨sa, ca0, ca1, fa0, fa1⟩ := Row.cells2 ra
  have ylt := ra.1
  unfold Q
  have L := fun W => rleast a b (da.mono (by omega)) (db.mono (by omega)) W
  have H := fun W => rmost a b (da.mono (by omega)) (db.mono (by omega)) W
  have dl := leastQ_dig da db
  have dm := mostQ_dig da db
  have lm := least_most a b
  generalize leastQ a b = x at *
  generalize mostQ a b = y at *
  unfold QIs Q at L H
  go_wp2_with fail
  have sB := hB.size
  refine wp_cut (fun X => Below w.heap.size w X ∧ Row X w.heap.size (.cells #[.int .i64 x0, .int .i64 x1, .int .i64 x2, .int .i64 x3] 22) ∧ Row X (w.heap.size + 1) (.cells #[.string ⟨#[]⟩, .string ⟨#[]⟩, .string ⟨#[]⟩, .string ⟨#[]⟩] 29) ∧ Row X W2.heap.size (.cells #[.string (S a.num), .string (S (a.den : Int))] 26) ∧ Row X WB.heap.size (.cells #[.string (S b.num), .string (S (b.den : Int))] 26)) ⟨C1_hB, C3_rx, C3_ro, C3_ra, C2⟩ ?_
  clear rx
  clear sx cx0 cx1 cx2 cx3 fx0 fx1 fx2 fx3
  clear ro
  clear so co0 co1 co2 co3 fo0 fo1 fo2 fo3
  clear ra
  clear sa ca0 ca1 fa0 fa1
  clear hB sB
  rintro V5 ⟨hB, rx, ro, ra, rb⟩
  obtain ⟨sx, cx0, cx1, cx2, cx3, fx0, fx1, fx2, fx3⟩ := Row.cells4 rx
  obtain ⟨so, co0, co1, co2, co3, fo0, fo1, fo2, fo3⟩ := Row.cells4 ro
  obtain ⟨sa, ca0, ca1, fa0, fa1⟩ := Row.cells2 ra
  obtain ⟨sb, cb0, cb1, fb0, fb1⟩ := Row.cells2 rb
  have KK : ∀ X, Row X W2.heap.size (.cells #[.string (S a.num), .string (S (a.den : Int))] 26) → Row X WB.heap.size (.cells #[.string (S b.num), .string (S (b.den : Int))] 26) → (X.cell? ⟨W2.heap.size, 0, none⟩ = some (.string (S a.num)) ∧ X.cell? ⟨W2.heap.size, 1, none⟩ = some (.string (S (a.den : Int))) ∧ X.cell? ⟨WB.heap.size, 0, none⟩ = some (.string (S b.num)) ∧ X.cell? ⟨WB.heap.size, 1, none⟩ = some (.string (S (b.den : Int)))) := fun X h1 h2 => ⟨(Row.cells2 h1).2.1, (Row.cells2 h1).2.2.1, (Row.cells2 h2).2.1, (Row.cells2 h2).2.2.1⟩
  go_region_held3 (fun X => X.cell? ⟨W2.heap.size, 0, none⟩ = some (.string (S a.num)) ∧ X.cell? ⟨W2.heap.size, 1, none⟩ = some (.string (S (a.den : Int))) ∧ X.cell? ⟨WB.heap.size, 0, none⟩ = some (.string (S b.num)) ∧ X.cell? ⟨WB.heap.size, 1, none⟩ = some (.string (S (b.den : Int)))) (first | exact KK _ C3_ra C3_rb) (first
      | (go_at_call 73; with_reducible refine (L _).mono ?_; rintro e W ⟨rfl, h1⟩; (try replace h1 := below_of_drew h1); replace hB := hB.trans (h1.mono hB.size); replace rx := Row.below rx h1; replace ro := Row.below ro h1; replace ra := Row.below ra h1; replace rb := Row.below rb h1; obtain ⟨so, co0, co1, co2, co3, fo0, fo1, fo2, fo3⟩ := Row.cells4 ro)
      | (go_at_call 74; with_reducible refine (H _).mono ?_; rintro e W ⟨rfl, h1⟩; (try replace h1 := below_of_drew h1); replace hB := hB.trans (h1.mono hB.size); replace rx := Row.below rx h1; replace ro := Row.below ro h1; replace ra := Row.below ra h1; replace rb := Row.below rb h1; obtain ⟨so, co0, co1, co2, co3, fo0, fo1, fo2, fo3⟩ := Row.cells4 ro))
  go_wp2
  have sB := hB.size
  refine post_cut (fun X => Below w.heap.size w X ∧ Row X (w.heap.size + 1) (.cells #[.string (S x.num), .string (S (x.den : Int)), .string (S y.num), .string (S (y.den : Int))] 29)) ⟨C1_hB, C3_ro⟩ ?_
  clear ro
  clear so co0 co1 co2 co3 fo0 fo1 fo2 fo3
  clear hB sB
  rintro V6 ⟨hB, ro⟩
  obtain ⟨so, co0, co1, co2, co3, fo0, fo1, fo2, fo3⟩ := Row.cells4 ro
  refine bodyPost_ret (v := .agg #[.string (S x.num), .string (S (x.den : Int)), .string (S y.num), .string (S (y.den : Int))]) ?res rfl ⟨⟨x, y⟩, ⟨⟨dl, dm⟩, lm⟩, rfl, hB⟩
  case res => simp [results, Tryz.results21, go_sem, co0, co1, co2, co3]
set_option maxRecDepth 100000 in
set_option maxHeartbeats 4000000 in
theorem lratio {n d : Int} (hn : IsInt n) (hd : IsInt d) (hd0 : 0 < d) (w : World) : Calls Tryz.prog 18 #[.int .i64 n, .int .i64 d] w (QIs (Rat.divInt n d) w) := by
  have M := fun W => rqof hn hd hd0 W
  unfold QOk at M
  unfold QIs
  generalize Rat.divInt n d = q at *
  clear hn hd hd0
  unfold Q at *
  have hB : Below w.heap.size w w := Below.refl _ _
  go_enter Tryz.func18, Tryz.ntmps18
  go_wp2_with fail
  have sB := hB.size
  refine world_cut (fun X => Below w.heap.size w X ∧ Row X w.heap.size (.cells #[.string ⟨#[]⟩, .string ⟨#[]⟩] 26)) ⟨C1_hB, C2⟩ ?_
  clear hB sB
  rintro V1 ⟨hB, ro⟩
  obtain ⟨so, co0, co1, fo0, fo1⟩ := Row.cells2 ro
  refine (M _).mono ?_
  rintro e W2 ⟨rfl, h1⟩
  clear so co0 co1 fo0 fo1
  replace hB := hB.trans (h1.mono hB.size)
  replace ro := Row.below ro h1
  clear h1
  obtain ⟨so, co0, co1, fo0, fo1⟩ := Row.cells2 ro
  go_wp2
  have sB := hB.size
  refine post_cut (fun X => Below w.heap.size w X ∧ Row X w.heap.size (.cells #[.string (S q.num), .string (S (q.den : Int))] 26) ∧ Row X W2.heap.size (.cells #[.string (S q.num), .string (S (q.den : Int))] 26)) ⟨C1_hB, C3_ro, C2⟩ ?_
  clear ro
  clear so co0 co1 fo0 fo1
  clear hB sB
  rintro V3 ⟨hB, ro, rr⟩
  obtain ⟨so, co0, co1, fo0, fo1⟩ := Row.cells2 ro
  obtain ⟨sr, cr0, cr1, fr0, fr1⟩ := Row.cells2 rr
  refine bodyPost_ret (v := .agg #[.string (S q.num), .string (S (q.den : Int))]) ?res rfl ⟨rfl, hB⟩
  case res => simp [results, Tryz.results18, go_sem, co0, co1]
set_option maxRecDepth 100000 in
set_option maxHeartbeats 4000000 in
theorem lspan {n d : Int} (hn : IsInt n) (hd : IsInt d) (w : World) : Calls Tryz.prog 50 #[.int .i64 n, .int .i64 d] w fun e w' => e = .returned (I (⟨Rat.divInt n 1, Rat.divInt d 1⟩)) ∧ Below w.heap.size w w' := by
  have M0 := fun W => lratio hn ⟨by omega, by omega⟩ (show (0 : Int) < 1 by omega) W
  have M1 := fun W => lratio hd ⟨by omega, by omega⟩ (show (0 : Int) < 1 by omega) W
  unfold QIs at M0 M1
  unfold I
  simp only
  generalize Rat.divInt n 1 = x at *
  generalize Rat.divInt d 1 = y at *
  clear hn hd
  unfold Q at *
  have hB : Below w.heap.size w w := Below.refl _ _
  go_enter Tryz.func50, Tryz.ntmps50
  go_wp2_with fail
  have sB := hB.size
  refine world_cut (fun X => Below w.heap.size w X ∧ Row X w.heap.size (.cells #[.string ⟨#[]⟩, .string ⟨#[]⟩, .string ⟨#[]⟩, .string ⟨#[]⟩] 29)) ⟨C1_hB, C2⟩ ?_
  clear hB sB
  rintro V1 ⟨hB, ro⟩
  obtain ⟨so, co0, co1, co2, co3, fo0, fo1, fo2, fo3⟩ := Row.cells4 ro
  refine (M0 _).mono ?_
  rintro e W2 ⟨rfl, h1⟩
  clear so co0 co1 co2 co3 fo0 fo1 fo2 fo3
  replace hB := hB.trans (h1.mono hB.size)
  replace ro := Row.below ro h1
  clear h1
  obtain ⟨so, co0, co1, co2, co3, fo0, fo1, fo2, fo3⟩ := Row.cells4 ro
  go_wp2_with fail
  refine (M1 _).mono ?_
  rintro e W3 ⟨rfl, h1⟩
  clear so co0 co1 co2 co3 fo0 fo1 fo2 fo3
  replace hB := hB.trans (h1.mono hB.size)
  replace ro := Row.below ro h1
  clear h1
  obtain ⟨so, co0, co1, co2, co3, fo0, fo1, fo2, fo3⟩ := Row.cells4 ro
  go_wp2
  have sB := hB.size
  refine post_cut (fun X => Below w.heap.size w X ∧ Row X w.heap.size (.cells #[.string (S x.num), .string (S (x.den : Int)), .string (S y.num), .string (S (y.den : Int))] 29)) ⟨C1_hB, C3_ro⟩ ?_
  clear ro
  clear so co0 co1 co2 co3 fo0 fo1 fo2 fo3
  clear hB sB
  rintro V4 ⟨hB, ro⟩
  obtain ⟨so, co0, co1, co2, co3, fo0, fo1, fo2, fo3⟩ := Row.cells4 ro
  refine bodyPost_ret (v := .agg #[.string (S x.num), .string (S (x.den : Int)), .string (S y.num), .string (S (y.den : Int))]) ?res rfl ⟨rfl, hB⟩
  case res => simp [results, Tryz.results50, go_sem, co0, co1, co2, co3]
theorem inside_has {a : Iv} {r : Int} (ho : a.Ok) (h0 : 0 ≤ r) (h1 : r ≤ 100) : a.Has (a.lo + (a.hi - a.lo) * Rat.divInt r 100) := by
  have ho2 : a.lo ≤ a.hi := ho
  have l0 : 0 ≤ Rat.divInt r 100 := (le_divInt (by decide)).2 (by have := Rat.intCast_nonneg.2 h0; grind)
  have l1 : Rat.divInt r 100 ≤ 1 := (divInt_le (by decide)).2 (by have := Rat.intCast_le_intCast.2 h1; grind)
  have k0 := Rat.mul_le_mul_of_nonneg_left (a := 0) (b := Rat.divInt r 100) (c := a.hi - a.lo) l0 (by grind)
  have k1 := Rat.mul_le_mul_of_nonneg_left (a := Rat.divInt r 100) (b := 1) (c := a.hi - a.lo) l1 (by grind)
  constructor <;> grind
end Go.Proofs.YtngohpgkceedeaaGreatDoor
