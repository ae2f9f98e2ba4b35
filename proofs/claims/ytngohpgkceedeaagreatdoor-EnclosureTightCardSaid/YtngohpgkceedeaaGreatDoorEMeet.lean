/-
  Package enclosure: Meet.
-/
import Derived.Test.YtngohpgkceedeaaGreatDoorRQ2
import Derived.Test.YtngohpgkceedeaaGreatDoorChains
set_option linter.unusedSimpArgs false
set_option linter.unusedVariables false
namespace Go.Proofs.YtngohpgkceedeaaGreatDoor
open Go Go.RowKit Go.Lib Go.Shelf

set_option maxRecDepth 100000 in
set_option maxHeartbeats 4000000 in
theorem emeet1 (ba bb j k : Nat) (a b : Iv) (da : IDig j a) (db : IDig k b) (hjk : j + k ≤ 200) (ho : (meetI a b).Ok) (w : World) (he : Env w) (ra : IvRow w ba a) (rb : IvRow w bb b) :
    Calls Tryz.prog 112 #[.pointer (some ⟨ba, 0, none⟩), .pointer (some ⟨bb, 0, none⟩)] w fun e w' => e = .returned (I (meetI a b)) ∧ Below w.heap.size w w' := by
  have M0 := fun s W (h : Env W) r => ehull2 s a.lo b.lo (da.1.mono (by omega)) (db.1.mono (by omega)) W h r
  have M1 := fun s W (h : Env W) r => ehull2 s a.hi b.hi (da.2.mono (by omega)) (db.2.mono (by omega)) W h r
  have dm := meetI_dig (da.mono (show j ≤ j + k by omega)) (db.mono (show k ≤ j + k by omega))
  have MV := fun W (h : Env W) => evalid (meetI a b) (dm.mono (by omega)) W h
  have ho2 : (meetI a b).lo ≤ (meetI a b).hi := ho
  rw [decide_eq_true ho2] at MV
  have MT := fun W => echeck_true W
  unfold meetI at *
  unfold I at *
  unfold IvRow at *
  simp only at M0 M1 MV
  clear da db dm ho ho2 hjk
  generalize minQ a.lo b.lo = x1 at *
  generalize maxQ a.lo b.lo = x at *
  generalize minQ a.hi b.hi = y at *
  generalize maxQ a.hi b.hi = y1 at *
  have KK : ∀ X, Row X ba (.cells #[.string (S a.lo.num), .string (S (a.lo.den : Int)), .string (S a.hi.num), .string (S (a.hi.den : Int))] 29) → Row X bb (.cells #[.string (S b.lo.num), .string (S (b.lo.den : Int)), .string (S b.hi.num), .string (S (b.hi.den : Int))] 29) → (X.cell? ⟨ba, 0, none⟩ = some (.string (S a.lo.num)) ∧ X.cell? ⟨ba, 1, none⟩ = some (.string (S (a.lo.den : Int))) ∧ X.cell? ⟨ba, 2, none⟩ = some (.string (S a.hi.num)) ∧ X.cell? ⟨ba, 3, none⟩ = some (.string (S (a.hi.den : Int))) ∧ X.cell? ⟨bb, 0, none⟩ = some (.string (S b.lo.num)) ∧ X.cell? ⟨bb, 1, none⟩ = some (.string (S (b.lo.den : Int))) ∧ X.cell? ⟨bb, 2, none⟩ = some (.string (S b.hi.num)) ∧ X.cell? ⟨bb, 3, none⟩ = some (.string (S (b.hi.den : Int)))) := fun X h1 h2 => ⟨(IvRow.facts h1).1, (IvRow.facts h1).2.1, (IvRow.facts h1).2.2.1, (IvRow.facts h1).2.2.2, IvRow.facts h2⟩
  generalize hgalon : S a.lo.num = alon at *
  generalize hgalod : S (a.lo.den : Int) = alod at *
  generalize hgahin : S a.hi.num = ahin at *
  generalize hgahid : S (a.hi.den : Int) = ahid at *
  generalize hgblon : S b.lo.num = blon at *
  generalize hgblod : S (b.lo.den : Int) = blod at *
  generalize hgbhin : S b.hi.num = bhin at *
  generalize hgbhid : S (b.hi.den : Int) = bhid at *
  generalize hgxn : S x.num = xn at *
  generalize hgxd : S (x.den : Int) = xd at *
  generalize hgyn : S y.num = yn at *
  generalize hgyd : S (y.den : Int) = yd at *
  generalize hgx1n : S x1.num = x1n at *
  generalize hgx1d : S (x1.den : Int) = x1d at *
  generalize hgy1n : S y1.num = y1n at *
  generalize hgy1d : S (y1.den : Int) = y1d at *
  have HG := Lib.hid (And.intro hgxn (And.intro hgxd (And.intro hgyn hgyd)))
  clear hgalon
  clear hgalod
  clear hgahin
  clear hgahid
  clear hgblon
  clear hgblod
  clear hgbhin
  clear hgbhid
  clear hgxn
  clear hgxd
  clear hgyn
  clear hgyd
  clear hgx1n
  clear hgx1d
  clear hgy1n
  clear hgy1d
  have hfd1 : ∀ w : World, (Instr.field 29 (.agg #[.string x1n, .string x1d, .string xn, .string xd]) 1).run Tryz.prog w = .ok (.agg #[.string xn, .string xd]) w := fun _ => by kernel_rfl
  have hfd0 : ∀ w : World, (Instr.field 29 (.agg #[.string yn, .string yd, .string y1n, .string y1d]) 0).run Tryz.prog w = .ok (.agg #[.string yn, .string yd]) w := fun _ => by kernel_rfl
  have sa := ra.1
  have sb := rb.1
  have hB : Below w.heap.size w w := Below.refl _ _
  go_enter Tryz.func112, Tryz.ntmps112
  go_wp2_with fail
  refine wp_cut (fun X => Below w.heap.size w X ∧ Row X ba (.cells #[.string alon, .string alod, .string ahin, .string ahid] 29) ∧ Row X bb (.cells #[.string blon, .string blod, .string bhin, .string bhid] 29) ∧ Row X w.heap.size (.cells #[.string ⟨#[]⟩, .string ⟨#[]⟩, .string ⟨#[]⟩, .string ⟨#[]⟩] 29)) ⟨C1_hB, ra.alloc _, rb.alloc _, C2⟩ ?_
  clear hB ra rb
  rintro V ⟨hB, ra, rb, ro⟩
  refine Code.wp_mono (Q := fun ex ac wx => ex = .normal ∧ ∃ (bo : Nat) (u4 u5 u6 u7 u8 u9 u10 u11 u12 u13 u14 u15 u16 u17 u18 : Value), ac = { tmps := #[.pointer (some ⟨ba, 0, none⟩), .pointer (some ⟨bb, 0, none⟩), .pointer (some ⟨w.heap.size, 0, none⟩), .pointer (some ⟨bo, 0, none⟩), u4, u5, u6, u7, u8, u9, u10, u11, u12, u13, u14, u15, u16, u17, u18, undef, undef, undef, undef], defers := [] } ∧ Below w.heap.size w wx ∧ Row wx w.heap.size (.cells #[.string ⟨#[]⟩, .string ⟨#[]⟩, .string ⟨#[]⟩, .string ⟨#[]⟩] 29) ∧ Row wx bo (.cells #[.string xn, .string xd, .string yn, .string yd] 29) ∧ bo ≠ w.heap.size) ?rest ?first
  case first =>
    have vlt : w.heap.size < V.heap.size := ro.1
    have tok1 : True := trivial
    go_region_held3 (fun X => X.cell? ⟨ba, 0, none⟩ = some (.string alon) ∧ X.cell? ⟨ba, 1, none⟩ = some (.string alod) ∧ X.cell? ⟨ba, 2, none⟩ = some (.string ahin) ∧ X.cell? ⟨ba, 3, none⟩ = some (.string ahid) ∧ X.cell? ⟨bb, 0, none⟩ = some (.string blon) ∧ X.cell? ⟨bb, 1, none⟩ = some (.string blod) ∧ X.cell? ⟨bb, 2, none⟩ = some (.string bhin) ∧ X.cell? ⟨bb, 3, none⟩ = some (.string bhid)) (first | exact KK _ C3_ra C3_rb) (first
        | (go_at_call 113; have _t := tok1; with_reducible refine Calls.mono (M0 _ _ ?henv ?hrow) ?_; (case henv => exact (by first | exact he.below hB | (refine he.below ?_; exact C1_hB))); (case hrow => (repeat (first | (with_reducible exact row_new' (by first | omega | (simp; done) | (simp; omega))) | (with_reducible refine Row.drew ?_) | (with_reducible refine Row.drewN ?_ _) | (with_reducible refine Row.alloc ?_ _) | (with_reducible apply Row.set4) | (with_reducible apply Row.set4a) | (with_reducible apply Row.set4b) | (with_reducible apply Row.set2) | (with_reducible apply Row.set1) | (with_reducible refine Row.set_other ?_ _ (by first | omega | (simp; done) | (simp; omega)))))); rintro e W1 ⟨rfl, h1⟩; (first | (refine with_fact (p := Row W1 (V.heap.size) (.cells #[.string ahin, .string ahid, .string bhin, .string bhid] 26)) ?_ ?_; (focus (refine Row.below ?_ h1; (repeat (first | (with_reducible exact row_new' (by first | omega | (simp; done) | (simp; omega))) | (with_reducible refine Row.drew ?_) | (with_reducible refine Row.drewN ?_ _) | (with_reducible refine Row.alloc ?_ _) | (with_reducible apply Row.set4) | (with_reducible apply Row.set4a) | (with_reducible apply Row.set4b) | (with_reducible apply Row.set2) | (with_reducible apply Row.set1) | (with_reducible refine Row.set_other ?_ _ (by first | omega | (simp; done) | (simp; omega))))); done)); intro rs2) | (refine with_fact (p := Row W1 (V.heap.size + 1) (.cells #[.string ahin, .string ahid, .string bhin, .string bhid] 26)) ?_ ?_; (focus (refine Row.below ?_ h1; (repeat (first | (with_reducible exact row_new' (by first | omega | (simp; done) | (simp; omega))) | (with_reducible refine Row.drew ?_) | (with_reducible refine Row.drewN ?_ _) | (with_reducible refine Row.alloc ?_ _) | (with_reducible apply Row.set4) | (with_reducible apply Row.set4a) | (with_reducible apply Row.set4b) | (with_reducible apply Row.set2) | (with_reducible apply Row.set1) | (with_reducible refine Row.set_other ?_ _ (by first | omega | (simp; done) | (simp; omega))))); done)); intro rs2) | (refine with_fact (p := Row W1 (V.heap.size + 1 + 1) (.cells #[.string ahin, .string ahid, .string bhin, .string bhid] 26)) ?_ ?_; (focus (refine Row.below ?_ h1; (repeat (first | (with_reducible exact row_new' (by first | omega | (simp; done) | (simp; omega))) | (with_reducible refine Row.drew ?_) | (with_reducible refine Row.drewN ?_ _) | (with_reducible refine Row.alloc ?_ _) | (with_reducible apply Row.set4) | (with_reducible apply Row.set4a) | (with_reducible apply Row.set4b) | (with_reducible apply Row.set2) | (with_reducible apply Row.set1) | (with_reducible refine Row.set_other ?_ _ (by first | omega | (simp; done) | (simp; omega))))); done)); intro rs2) | skip); (first | (refine with_fact (p := Row W1 (V.heap.size) (.cells #[.string ⟨#[]⟩, .string ⟨#[]⟩, .string ⟨#[]⟩, .string ⟨#[]⟩] 29)) ?_ ?_; (focus (refine Row.below ?_ h1; (repeat (first | (with_reducible exact row_new' (by first | omega | (simp; done) | (simp; omega))) | (with_reducible refine Row.drew ?_) | (with_reducible refine Row.drewN ?_ _) | (with_reducible refine Row.alloc ?_ _) | (with_reducible apply Row.set4) | (with_reducible apply Row.set4a) | (with_reducible apply Row.set4b) | (with_reducible apply Row.set2) | (with_reducible apply Row.set1) | (with_reducible refine Row.set_other ?_ _ (by first | omega | (simp; done) | (simp; omega))))); done)); intro rz) | (refine with_fact (p := Row W1 (V.heap.size + 1) (.cells #[.string ⟨#[]⟩, .string ⟨#[]⟩, .string ⟨#[]⟩, .string ⟨#[]⟩] 29)) ?_ ?_; (focus (refine Row.below ?_ h1; (repeat (first | (with_reducible exact row_new' (by first | omega | (simp; done) | (simp; omega))) | (with_reducible refine Row.drew ?_) | (with_reducible refine Row.drewN ?_ _) | (with_reducible refine Row.alloc ?_ _) | (with_reducible apply Row.set4) | (with_reducible apply Row.set4a) | (with_reducible apply Row.set4b) | (with_reducible apply Row.set2) | (with_reducible apply Row.set1) | (with_reducible refine Row.set_other ?_ _ (by first | omega | (simp; done) | (simp; omega))))); done)); intro rz) | (refine with_fact (p := Row W1 (V.heap.size + 1 + 1) (.cells #[.string ⟨#[]⟩, .string ⟨#[]⟩, .string ⟨#[]⟩, .string ⟨#[]⟩] 29)) ?_ ?_; (focus (refine Row.below ?_ h1; (repeat (first | (with_reducible exact row_new' (by first | omega | (simp; done) | (simp; omega))) | (with_reducible refine Row.drew ?_) | (with_reducible refine Row.drewN ?_ _) | (with_reducible refine Row.alloc ?_ _) | (with_reducible apply Row.set4) | (with_reducible apply Row.set4a) | (with_reducible apply Row.set4b) | (with_reducible apply Row.set2) | (with_reducible apply Row.set1) | (with_reducible refine Row.set_other ?_ _ (by first | omega | (simp; done) | (simp; omega))))); done)); intro rz) | skip); replace ra : Row W1 ba (.cells #[.string alon, .string alod, .string ahin, .string ahid] 29) := Row.below C3_ra h1; replace rb : Row W1 bb (.cells #[.string blon, .string blod, .string bhin, .string bhid] 29) := Row.below C3_rb h1; replace ro : Row W1 w.heap.size (.cells #[.string ⟨#[]⟩, .string ⟨#[]⟩, .string ⟨#[]⟩, .string ⟨#[]⟩] 29) := Row.below C3_ro h1; replace hB := below_step (a := w) h1 C1_hB; have wlt : w.heap.size < W1.heap.size := Row.lt ro; clear _t tok1; have tok2 : True := trivial)
        | (go_at_call 113; have _t := tok2; with_reducible refine Calls.mono (M1 _ _ ?henv ?hrow) ?_; (case henv => exact (by first | exact he.below hB | (refine he.below ?_; exact C1_hB))); (case hrow => first | (with_reducible exact rs2) | ((repeat (first | (with_reducible exact rs2) | (with_reducible exact row_new' (by first | omega | (simp; done) | (simp; omega))) | (with_reducible refine Row.drew ?_) | (with_reducible refine Row.drewN ?_ _) | (with_reducible refine Row.alloc ?_ _) | (with_reducible apply Row.set4) | (with_reducible apply Row.set4a) | (with_reducible apply Row.set4b) | (with_reducible apply Row.set2) | (with_reducible apply Row.set1) | (with_reducible refine Row.set_other ?_ _ (by first | omega | (simp; done) | (simp; omega))))); done) | ((repeat (first | (with_reducible exact row_new' (by first | omega | (simp; done) | (simp; omega))) | (with_reducible refine Row.drew ?_) | (with_reducible refine Row.drewN ?_ _) | (with_reducible refine Row.alloc ?_ _) | (with_reducible apply Row.set4) | (with_reducible apply Row.set4a) | (with_reducible apply Row.set4b) | (with_reducible apply Row.set2) | (with_reducible apply Row.set1) | (with_reducible refine Row.set_other ?_ _ (by first | omega | (simp; done) | (simp; omega))))); done)); rintro e W2 ⟨rfl, h1⟩; (first | (refine with_fact (p := Row W2 (V.heap.size) (.cells #[.string ⟨#[]⟩, .string ⟨#[]⟩, .string ⟨#[]⟩, .string ⟨#[]⟩] 29)) ?_ ?_; (focus (refine Row.below ?_ h1; (repeat (first | (with_reducible exact rz) | (with_reducible exact row_new' (by first | omega | (simp; done) | (simp; omega))) | (with_reducible refine Row.drew ?_) | (with_reducible refine Row.drewN ?_ _) | (with_reducible refine Row.alloc ?_ _) | (with_reducible apply Row.set4) | (with_reducible apply Row.set4a) | (with_reducible apply Row.set4b) | (with_reducible apply Row.set2) | (with_reducible apply Row.set1) | (with_reducible refine Row.set_other ?_ _ (by first | omega | (simp; done) | (simp; omega))))); done)); clear rz; intro rz) | (refine with_fact (p := Row W2 (V.heap.size + 1) (.cells #[.string ⟨#[]⟩, .string ⟨#[]⟩, .string ⟨#[]⟩, .string ⟨#[]⟩] 29)) ?_ ?_; (focus (refine Row.below ?_ h1; (repeat (first | (with_reducible exact rz) | (with_reducible exact row_new' (by first | omega | (simp; done) | (simp; omega))) | (with_reducible refine Row.drew ?_) | (with_reducible refine Row.drewN ?_ _) | (with_reducible refine Row.alloc ?_ _) | (with_reducible apply Row.set4) | (with_reducible apply Row.set4a) | (with_reducible apply Row.set4b) | (with_reducible apply Row.set2) | (with_reducible apply Row.set1) | (with_reducible refine Row.set_other ?_ _ (by first | omega | (simp; done) | (simp; omega))))); done)); clear rz; intro rz) | (refine with_fact (p := Row W2 (V.heap.size + 1 + 1) (.cells #[.string ⟨#[]⟩, .string ⟨#[]⟩, .string ⟨#[]⟩, .string ⟨#[]⟩] 29)) ?_ ?_; (focus (refine Row.below ?_ h1; (repeat (first | (with_reducible exact rz) | (with_reducible exact row_new' (by first | omega | (simp; done) | (simp; omega))) | (with_reducible refine Row.drew ?_) | (with_reducible refine Row.drewN ?_ _) | (with_reducible refine Row.alloc ?_ _) | (with_reducible apply Row.set4) | (with_reducible apply Row.set4a) | (with_reducible apply Row.set4b) | (with_reducible apply Row.set2) | (with_reducible apply Row.set1) | (with_reducible refine Row.set_other ?_ _ (by first | omega | (simp; done) | (simp; omega))))); done)); clear rz; intro rz) | (refine with_fact (p := Row W2 (W1.heap.size) (.cells #[.string ⟨#[]⟩, .string ⟨#[]⟩, .string ⟨#[]⟩, .string ⟨#[]⟩] 29)) ?_ ?_; (focus (refine Row.below ?_ h1; (repeat (first | (with_reducible exact row_new' (by first | omega | (simp; done) | (simp; omega))) | (with_reducible refine Row.drew ?_) | (with_reducible refine Row.drewN ?_ _) | (with_reducible refine Row.alloc ?_ _) | (with_reducible apply Row.set4) | (with_reducible apply Row.set4a) | (with_reducible apply Row.set4b) | (with_reducible apply Row.set2) | (with_reducible apply Row.set1) | (with_reducible refine Row.set_other ?_ _ (by first | omega | (simp; done) | (simp; omega))))); done)); intro rz) | (refine with_fact (p := Row W2 (W1.heap.size + 1) (.cells #[.string ⟨#[]⟩, .string ⟨#[]⟩, .string ⟨#[]⟩, .string ⟨#[]⟩] 29)) ?_ ?_; (focus (refine Row.below ?_ h1; (repeat (first | (with_reducible exact row_new' (by first | omega | (simp; done) | (simp; omega))) | (with_reducible refine Row.drew ?_) | (with_reducible refine Row.drewN ?_ _) | (with_reducible refine Row.alloc ?_ _) | (with_reducible apply Row.set4) | (with_reducible apply Row.set4a) | (with_reducible apply Row.set4b) | (with_reducible apply Row.set2) | (with_reducible apply Row.set1) | (with_reducible refine Row.set_other ?_ _ (by first | omega | (simp; done) | (simp; omega))))); done)); intro rz) | skip); replace ra : Row W2 ba (.cells #[.string alon, .string alod, .string ahin, .string ahid] 29) := Row.below C3_ra h1; replace rb : Row W2 bb (.cells #[.string blon, .string blod, .string bhin, .string bhid] 29) := Row.below C3_rb h1; replace ro : Row W2 w.heap.size (.cells #[.string ⟨#[]⟩, .string ⟨#[]⟩, .string ⟨#[]⟩, .string ⟨#[]⟩] 29) := Row.below C3_ro h1; replace hB := below_step (a := w) h1 C1_hB; (first | (refine with_fact (Row.cells4 rz) ?_; rintro ⟨_, z0, z1, z2, z3, zf0, zf1, zf2, zf3⟩) | skip)))
    all_goals (have wl2 := Row.lt ro; refine ⟨rfl, _, _, _, _, _, _, _, _, _, _, _, _, _, _, _, _, rfl, ?_, ?_, ?_, ?_⟩)
    all_goals first | (with_reducible exact hB) | (with_reducible exact ro) | ((repeat (first | (with_reducible exact hB) | (with_reducible exact Below.refl _ _) | (with_reducible refine Below.drew ?_) | (with_reducible refine below_drewN ?_ _) | (with_reducible refine Below.alloc ?_ (by first | omega | (simp; done) | (simp; omega)) _) | (with_reducible refine Below.setCell ?_ (by first | omega | (simp; done) | (simp; omega)) _))); done) | ((repeat (first | (with_reducible exact ro) | (with_reducible exact row_new' (by first | omega | (simp; done) | (simp; omega))) | (with_reducible refine Row.drew ?_) | (with_reducible refine Row.drewN ?_ _) | (with_reducible refine Row.alloc ?_ _) | (with_reducible apply Row.set4) | (with_reducible apply Row.set4a) | (with_reducible apply Row.set4b) | (with_reducible apply Row.set2) | (with_reducible apply Row.set1) | (with_reducible refine Row.set_other ?_ _ (by first | omega | (simp; done) | (simp; omega))))); done) | ((repeat (first | (with_reducible exact rz) | (with_reducible exact row_new' (by first | omega | (simp; done) | (simp; omega))) | (with_reducible refine Row.drew ?_) | (with_reducible refine Row.drewN ?_ _) | (with_reducible refine Row.alloc ?_ _) | (with_reducible apply Row.set4) | (with_reducible apply Row.set4a) | (with_reducible apply Row.set4b) | (with_reducible apply Row.set2) | (with_reducible apply Row.set1) | (with_reducible refine Row.set_other ?_ _ (by first | omega | (simp; done) | (simp; omega))))); done) | ((repeat (first | (with_reducible exact row_new' (by first | omega | (simp; done) | (simp; omega))) | (with_reducible refine Row.drew ?_) | (with_reducible refine Row.drewN ?_ _) | (with_reducible refine Row.alloc ?_ _) | (with_reducible apply Row.set4) | (with_reducible apply Row.set4a) | (with_reducible apply Row.set4b) | (with_reducible apply Row.set2) | (with_reducible apply Row.set1) | (with_reducible refine Row.set_other ?_ _ (by first | omega | (simp; done) | (simp; omega))))); done) | omega
  case rest =>
    clear M0 M1 KK hfd0 hfd1 ra rb ro hB
    rintro ex ac wx ⟨rfl, bo, u4, u5, u6, u7, u8, u9, u10, u11, u12, u13, u14, u15, u16, u17, u18, rfl, hB, ro, rz, hne⟩
    obtain ⟨so, co0, co1, co2, co3, fo0, fo1, fo2, fo3⟩ := Row.cells4 ro
    obtain ⟨sz, cz0, cz1, cz2, cz3, fz0, fz1, fz2, fz3⟩ := Row.cells4 rz
    go_wp2_with fail
    refine (MV _ (he.below hB)).mono ?_
    rintro e W1 ⟨rfl, h1⟩
    clear so co0 co1 co2 co3 fo0 fo1 fo2 fo3
    clear sz cz0 cz1 cz2 cz3 fz0 fz1 fz2 fz3
    replace hB := hB.trans (h1.mono hB.size)
    replace ro := Row.below ro h1
    replace rz := Row.below rz h1
    clear h1
    obtain ⟨so, co0, co1, co2, co3, fo0, fo1, fo2, fo3⟩ := Row.cells4 ro
    obtain ⟨sz, cz0, cz1, cz2, cz3, fz0, fz1, fz2, fz3⟩ := Row.cells4 rz
    go_wp2_with fail
    refine (MT _).mono ?_
    rintro e W2 ⟨rfl, h1⟩
    clear so co0 co1 co2 co3 fo0 fo1 fo2 fo3
    clear sz cz0 cz1 cz2 cz3 fz0 fz1 fz2 fz3
    replace hB := hB.trans (h1.mono hB.size)
    replace ro := Row.below ro h1
    replace rz := Row.below rz h1
    clear h1
    obtain ⟨so, co0, co1, co2, co3, fo0, fo1, fo2, fo3⟩ := Row.cells4 ro
    obtain ⟨sz, cz0, cz1, cz2, cz3, fz0, fz1, fz2, fz3⟩ := Row.cells4 rz
    go_wp2
    have sB := hB.size
    refine post_cut (fun X => Below w.heap.size w X ∧ Row X w.heap.size (.cells #[.string xn, .string xd, .string yn, .string yd] 29) ∧ Row X bo (.cells #[.string xn, .string xd, .string yn, .string yd] 29)) ⟨C1_hB, C3_ro, C3_rz⟩ ?_
    clear ro
    clear so co0 co1 co2 co3 fo0 fo1 fo2 fo3
    clear rz
    clear sz cz0 cz1 cz2 cz3 fz0 fz1 fz2 fz3
    clear hB sB
    rintro V3 ⟨hB, ro, rz⟩
    obtain ⟨so, co0, co1, co2, co3, fo0, fo1, fo2, fo3⟩ := Row.cells4 ro
    obtain ⟨sz, cz0, cz1, cz2, cz3, fz0, fz1, fz2, fz3⟩ := Row.cells4 rz
    refine bodyPost_ret (v := .agg #[.string xn, .string xd, .string yn, .string yd]) ?res rfl ⟨by rw [← HG.out.1, ← HG.out.2.1, ← HG.out.2.2.1, ← HG.out.2.2.2], hB⟩
    case res => simp [results, Tryz.results112, go_sem, co0, co1, co2, co3]
set_option maxRecDepth 100000 in
set_option maxHeartbeats 4000000 in
theorem emeet1_err (a0 : Addr) (ba bb j k : Nat) (a b : Iv) (da : IDig j a) (db : IDig k b) (hjk : j + k ≤ 200) (ho : ¬ (meetI a b).Ok) (w : World) (he : EnvE a0 w) (ra : IvRow w ba a) (rb : IvRow w bb b) :
    Calls Tryz.prog 112 #[.pointer (some ⟨ba, 0, none⟩), .pointer (some ⟨bb, 0, none⟩)] w (FailsOk a0 w) := by
  have M0 := fun s W (h : Env W) r => ehull2 s a.lo b.lo (da.1.mono (by omega)) (db.1.mono (by omega)) W h r
  have M1 := fun s W (h : Env W) r => ehull2 s a.hi b.hi (da.2.mono (by omega)) (db.2.mono (by omega)) W h r
  have dm := meetI_dig (da.mono (show j ≤ j + k by omega)) (db.mono (show k ≤ j + k by omega))
  have MV := fun W (h : Env W) => evalid (meetI a b) (dm.mono (by omega)) W h
  have ho2 : ¬ (meetI a b).lo ≤ (meetI a b).hi := ho
  rw [decide_eq_false ho2] at MV
  have MT := fun W (h : EnvE a0 W) => echeck_false W h
  unfold meetI at *
  unfold I at *
  unfold IvRow at *
  simp only at M0 M1 MV
  clear da db dm ho ho2 hjk
  generalize minQ a.lo b.lo = x1 at *
  generalize maxQ a.lo b.lo = x at *
  generalize minQ a.hi b.hi = y at *
  generalize maxQ a.hi b.hi = y1 at *
  have KK : ∀ X, Row X ba (.cells #[.string (S a.lo.num), .string (S (a.lo.den : Int)), .string (S a.hi.num), .string (S (a.hi.den : Int))] 29) → Row X bb (.cells #[.string (S b.lo.num), .string (S (b.lo.den : Int)), .string (S b.hi.num), .string (S (b.hi.den : Int))] 29) → (X.cell? ⟨ba, 0, none⟩ = some (.string (S a.lo.num)) ∧ X.cell? ⟨ba, 1, none⟩ = some (.string (S (a.lo.den : Int))) ∧ X.cell? ⟨ba, 2, none⟩ = some (.string (S a.hi.num)) ∧ X.cell? ⟨ba, 3, none⟩ = some (.string (S (a.hi.den : Int))) ∧ X.cell? ⟨bb, 0, none⟩ = some (.string (S b.lo.num)) ∧ X.cell? ⟨bb, 1, none⟩ = some (.string (S (b.lo.den : Int))) ∧ X.cell? ⟨bb, 2, none⟩ = some (.string (S b.hi.num)) ∧ X.cell? ⟨bb, 3, none⟩ = some (.string (S (b.hi.den : Int)))) := fun X h1 h2 => ⟨(IvRow.facts h1).1, (IvRow.facts h1).2.1, (IvRow.facts h1).2.2.1, (IvRow.facts h1).2.2.2, IvRow.facts h2⟩
  generalize hgalon : S a.lo.num = alon at *
  generalize hgalod : S (a.lo.den : Int) = alod at *
  generalize hgahin : S a.hi.num = ahin at *
  generalize hgahid : S (a.hi.den : Int) = ahid at *
  generalize hgblon : S b.lo.num = blon at *
  generalize hgblod : S (b.lo.den : Int) = blod at *
  generalize hgbhin : S b.hi.num = bhin at *
  generalize hgbhid : S (b.hi.den : Int) = bhid at *
  generalize hgxn : S x.num = xn at *
  generalize hgxd : S (x.den : Int) = xd at *
  generalize hgyn : S y.num = yn at *
  generalize hgyd : S (y.den : Int) = yd at *
  generalize hgx1n : S x1.num = x1n at *
  generalize hgx1d : S (x1.den : Int) = x1d at *
  generalize hgy1n : S y1.num = y1n at *
  generalize hgy1d : S (y1.den : Int) = y1d at *
  have HG := Lib.hid (And.intro hgxn (And.intro hgxd (And.intro hgyn hgyd)))
  clear hgalon
  clear hgalod
  clear hgahin
  clear hgahid
  clear hgblon
  clear hgblod
  clear hgbhin
  clear hgbhid
  clear hgxn
  clear hgxd
  clear hgyn
  clear hgyd
  clear hgx1n
  clear hgx1d
  clear hgy1n
  clear hgy1d
  have hfd1 : ∀ w : World, (Instr.field 29 (.agg #[.string x1n, .string x1d, .string xn, .string xd]) 1).run Tryz.prog w = .ok (.agg #[.string xn, .string xd]) w := fun _ => by kernel_rfl
  have hfd0 : ∀ w : World, (Instr.field 29 (.agg #[.string yn, .string yd, .string y1n, .string y1d]) 0).run Tryz.prog w = .ok (.agg #[.string yn, .string yd]) w := fun _ => by kernel_rfl
  have sa := ra.1
  have sb := rb.1
  have hB : Below w.heap.size w w := Below.refl _ _
  go_enter Tryz.func112, Tryz.ntmps112
  go_wp2_with fail
  refine wp_cut (fun X => Below w.heap.size w X ∧ Row X ba (.cells #[.string alon, .string alod, .string ahin, .string ahid] 29) ∧ Row X bb (.cells #[.string blon, .string blod, .string bhin, .string bhid] 29) ∧ Row X w.heap.size (.cells #[.string ⟨#[]⟩, .string ⟨#[]⟩, .string ⟨#[]⟩, .string ⟨#[]⟩] 29)) ⟨C1_hB, ra.alloc _, rb.alloc _, C2⟩ ?_
  clear hB ra rb
  rintro V ⟨hB, ra, rb, ro⟩
  refine Code.wp_mono (Q := fun ex ac wx => ex = .normal ∧ ∃ (bo : Nat) (u4 u5 u6 u7 u8 u9 u10 u11 u12 u13 u14 u15 u16 u17 u18 : Value), ac = { tmps := #[.pointer (some ⟨ba, 0, none⟩), .pointer (some ⟨bb, 0, none⟩), .pointer (some ⟨w.heap.size, 0, none⟩), .pointer (some ⟨bo, 0, none⟩), u4, u5, u6, u7, u8, u9, u10, u11, u12, u13, u14, u15, u16, u17, u18, undef, undef, undef, undef], defers := [] } ∧ Below w.heap.size w wx ∧ Row wx w.heap.size (.cells #[.string ⟨#[]⟩, .string ⟨#[]⟩, .string ⟨#[]⟩, .string ⟨#[]⟩] 29) ∧ Row wx bo (.cells #[.string xn, .string xd, .string yn, .string yd] 29) ∧ bo ≠ w.heap.size) ?rest ?first
  case first =>
    have vlt : w.heap.size < V.heap.size := ro.1
    have tok1 : True := trivial
    go_region_held3 (fun X => X.cell? ⟨ba, 0, none⟩ = some (.string alon) ∧ X.cell? ⟨ba, 1, none⟩ = some (.string alod) ∧ X.cell? ⟨ba, 2, none⟩ = some (.string ahin) ∧ X.cell? ⟨ba, 3, none⟩ = some (.string ahid) ∧ X.cell? ⟨bb, 0, none⟩ = some (.string blon) ∧ X.cell? ⟨bb, 1, none⟩ = some (.string blod) ∧ X.cell? ⟨bb, 2, none⟩ = some (.string bhin) ∧ X.cell? ⟨bb, 3, none⟩ = some (.string bhid)) (first | exact KK _ C3_ra C3_rb) (first
        | (go_at_call 113; have _t := tok1; with_reducible refine Calls.mono (M0 _ _ ?henv ?hrow) ?_; (case henv => exact (by first | exact he.env.below hB | (refine he.env.below ?_; exact C1_hB))); (case hrow => (repeat (first | (with_reducible exact row_new' (by first | omega | (simp; done) | (simp; omega))) | (with_reducible refine Row.drew ?_) | (with_reducible refine Row.drewN ?_ _) | (with_reducible refine Row.alloc ?_ _) | (with_reducible apply Row.set4) | (with_reducible apply Row.set4a) | (with_reducible apply Row.set4b) | (with_reducible apply Row.set2) | (with_reducible apply Row.set1) | (with_reducible refine Row.set_other ?_ _ (by first | omega | (simp; done) | (simp; omega)))))); rintro e W1 ⟨rfl, h1⟩; (first | (refine with_fact (p := Row W1 (V.heap.size) (.cells #[.string ahin, .string ahid, .string bhin, .string bhid] 26)) ?_ ?_; (focus (refine Row.below ?_ h1; (repeat (first | (with_reducible exact row_new' (by first | omega | (simp; done) | (simp; omega))) | (with_reducible refine Row.drew ?_) | (with_reducible refine Row.drewN ?_ _) | (with_reducible refine Row.alloc ?_ _) | (with_reducible apply Row.set4) | (with_reducible apply Row.set4a) | (with_reducible apply Row.set4b) | (with_reducible apply Row.set2) | (with_reducible apply Row.set1) | (with_reducible refine Row.set_other ?_ _ (by first | omega | (simp; done) | (simp; omega))))); done)); intro rs2) | (refine with_fact (p := Row W1 (V.heap.size + 1) (.cells #[.string ahin, .string ahid, .string bhin, .string bhid] 26)) ?_ ?_; (focus (refine Row.below ?_ h1; (repeat (first | (with_reducible exact row_new' (by first | omega | (simp; done) | (simp; omega))) | (with_reducible refine Row.drew ?_) | (with_reducible refine Row.drewN ?_ _) | (with_reducible refine Row.alloc ?_ _) | (with_reducible apply Row.set4) | (with_reducible apply Row.set4a) | (with_reducible apply Row.set4b) | (with_reducible apply Row.set2) | (with_reducible apply Row.set1) | (with_reducible refine Row.set_other ?_ _ (by first | omega | (simp; done) | (simp; omega))))); done)); intro rs2) | (refine with_fact (p := Row W1 (V.heap.size + 1 + 1) (.cells #[.string ahin, .string ahid, .string bhin, .string bhid] 26)) ?_ ?_; (focus (refine Row.below ?_ h1; (repeat (first | (with_reducible exact row_new' (by first | omega | (simp; done) | (simp; omega))) | (with_reducible refine Row.drew ?_) | (with_reducible refine Row.drewN ?_ _) | (with_reducible refine Row.alloc ?_ _) | (with_reducible apply Row.set4) | (with_reducible apply Row.set4a) | (with_reducible apply Row.set4b) | (with_reducible apply Row.set2) | (with_reducible apply Row.set1) | (with_reducible refine Row.set_other ?_ _ (by first | omega | (simp; done) | (simp; omega))))); done)); intro rs2) | skip); (first | (refine with_fact (p := Row W1 (V.heap.size) (.cells #[.string ⟨#[]⟩, .string ⟨#[]⟩, .string ⟨#[]⟩, .string ⟨#[]⟩] 29)) ?_ ?_; (focus (refine Row.below ?_ h1; (repeat (first | (with_reducible exact row_new' (by first | omega | (simp; done) | (simp; omega))) | (with_reducible refine Row.drew ?_) | (with_reducible refine Row.drewN ?_ _) | (with_reducible refine Row.alloc ?_ _) | (with_reducible apply Row.set4) | (with_reducible apply Row.set4a) | (with_reducible apply Row.set4b) | (with_reducible apply Row.set2) | (with_reducible apply Row.set1) | (with_reducible refine Row.set_other ?_ _ (by first | omega | (simp; done) | (simp; omega))))); done)); intro rz) | (refine with_fact (p := Row W1 (V.heap.size + 1) (.cells #[.string ⟨#[]⟩, .string ⟨#[]⟩, .string ⟨#[]⟩, .string ⟨#[]⟩] 29)) ?_ ?_; (focus (refine Row.below ?_ h1; (repeat (first | (with_reducible exact row_new' (by first | omega | (simp; done) | (simp; omega))) | (with_reducible refine Row.drew ?_) | (with_reducible refine Row.drewN ?_ _) | (with_reducible refine Row.alloc ?_ _) | (with_reducible apply Row.set4) | (with_reducible apply Row.set4a) | (with_reducible apply Row.set4b) | (with_reducible apply Row.set2) | (with_reducible apply Row.set1) | (with_reducible refine Row.set_other ?_ _ (by first | omega | (simp; done) | (simp; omega))))); done)); intro rz) | (refine with_fact (p := Row W1 (V.heap.size + 1 + 1) (.cells #[.string ⟨#[]⟩, .string ⟨#[]⟩, .string ⟨#[]⟩, .string ⟨#[]⟩] 29)) ?_ ?_; (focus (refine Row.below ?_ h1; (repeat (first | (with_reducible exact row_new' (by first | omega | (simp; done) | (simp; omega))) | (with_reducible refine Row.drew ?_) | (with_reducible refine Row.drewN ?_ _) | (with_reducible refine Row.alloc ?_ _) | (with_reducible apply Row.set4) | (with_reducible apply Row.set4a) | (with_reducible apply Row.set4b) | (with_reducible apply Row.set2) | (with_reducible apply Row.set1) | (with_reducible refine Row.set_other ?_ _ (by first | omega | (simp; done) | (simp; omega))))); done)); intro rz) | skip); replace ra : Row W1 ba (.cells #[.string alon, .string alod, .string ahin, .string ahid] 29) := Row.below C3_ra h1; replace rb : Row W1 bb (.cells #[.string blon, .string blod, .string bhin, .string bhid] 29) := Row.below C3_rb h1; replace ro : Row W1 w.heap.size (.cells #[.string ⟨#[]⟩, .string ⟨#[]⟩, .string ⟨#[]⟩, .string ⟨#[]⟩] 29) := Row.below C3_ro h1; replace hB := below_step (a := w) h1 C1_hB; have wlt : w.heap.size < W1.heap.size := Row.lt ro; clear _t tok1; have tok2 : True := trivial)
        | (go_at_call 113; have _t := tok2; with_reducible refine Calls.mono (M1 _ _ ?henv ?hrow) ?_; (case henv => exact (by first | exact he.env.below hB | (refine he.env.below ?_; exact C1_hB))); (case hrow => first | (with_reducible exact rs2) | ((repeat (first | (with_reducible exact rs2) | (with_reducible exact row_new' (by first | omega | (simp; done) | (simp; omega))) | (with_reducible refine Row.drew ?_) | (with_reducible refine Row.drewN ?_ _) | (with_reducible refine Row.alloc ?_ _) | (with_reducible apply Row.set4) | (with_reducible apply Row.set4a) | (with_reducible apply Row.set4b) | (with_reducible apply Row.set2) | (with_reducible apply Row.set1) | (with_reducible refine Row.set_other ?_ _ (by first | omega | (simp; done) | (simp; omega))))); done) | ((repeat (first | (with_reducible exact row_new' (by first | omega | (simp; done) | (simp; omega))) | (with_reducible refine Row.drew ?_) | (with_reducible refine Row.drewN ?_ _) | (with_reducible refine Row.alloc ?_ _) | (with_reducible apply Row.set4) | (with_reducible apply Row.set4a) | (with_reducible apply Row.set4b) | (with_reducible apply Row.set2) | (with_reducible apply Row.set1) | (with_reducible refine Row.set_other ?_ _ (by first | omega | (simp; done) | (simp; omega))))); done)); rintro e W2 ⟨rfl, h1⟩; (first | (refine with_fact (p := Row W2 (V.heap.size) (.cells #[.string ⟨#[]⟩, .string ⟨#[]⟩, .string ⟨#[]⟩, .string ⟨#[]⟩] 29)) ?_ ?_; (focus (refine Row.below ?_ h1; (repeat (first | (with_reducible exact rz) | (with_reducible exact row_new' (by first | omega | (simp; done) | (simp; omega))) | (with_reducible refine Row.drew ?_) | (with_reducible refine Row.drewN ?_ _) | (with_reducible refine Row.alloc ?_ _) | (with_reducible apply Row.set4) | (with_reducible apply Row.set4a) | (with_reducible apply Row.set4b) | (with_reducible apply Row.set2) | (with_reducible apply Row.set1) | (with_reducible refine Row.set_other ?_ _ (by first | omega | (simp; done) | (simp; omega))))); done)); clear rz; intro rz) | (refine with_fact (p := Row W2 (V.heap.size + 1) (.cells #[.string ⟨#[]⟩, .string ⟨#[]⟩, .string ⟨#[]⟩, .string ⟨#[]⟩] 29)) ?_ ?_; (focus (refine Row.below ?_ h1; (repeat (first | (with_reducible exact rz) | (with_reducible exact row_new' (by first | omega | (simp; done) | (simp; omega))) | (with_reducible refine Row.drew ?_) | (with_reducible refine Row.drewN ?_ _) | (with_reducible refine Row.alloc ?_ _) | (with_reducible apply Row.set4) | (with_reducible apply Row.set4a) | (with_reducible apply Row.set4b) | (with_reducible apply Row.set2) | (with_reducible apply Row.set1) | (with_reducible refine Row.set_other ?_ _ (by first | omega | (simp; done) | (simp; omega))))); done)); clear rz; intro rz) | (refine with_fact (p := Row W2 (V.heap.size + 1 + 1) (.cells #[.string ⟨#[]⟩, .string ⟨#[]⟩, .string ⟨#[]⟩, .string ⟨#[]⟩] 29)) ?_ ?_; (focus (refine Row.below ?_ h1; (repeat (first | (with_reducible exact rz) | (with_reducible exact row_new' (by first | omega | (simp; done) | (simp; omega))) | (with_reducible refine Row.drew ?_) | (with_reducible refine Row.drewN ?_ _) | (with_reducible refine Row.alloc ?_ _) | (with_reducible apply Row.set4) | (with_reducible apply Row.set4a) | (with_reducible apply Row.set4b) | (with_reducible apply Row.set2) | (with_reducible apply Row.set1) | (with_reducible refine Row.set_other ?_ _ (by first | omega | (simp; done) | (simp; omega))))); done)); clear rz; intro rz) | (refine with_fact (p := Row W2 (W1.heap.size) (.cells #[.string ⟨#[]⟩, .string ⟨#[]⟩, .string ⟨#[]⟩, .string ⟨#[]⟩] 29)) ?_ ?_; (focus (refine Row.below ?_ h1; (repeat (first | (with_reducible exact row_new' (by first | omega | (simp; done) | (simp; omega))) | (with_reducible refine Row.drew ?_) | (with_reducible refine Row.drewN ?_ _) | (with_reducible refine Row.alloc ?_ _) | (with_reducible apply Row.set4) | (with_reducible apply Row.set4a) | (with_reducible apply Row.set4b) | (with_reducible apply Row.set2) | (with_reducible apply Row.set1) | (with_reducible refine Row.set_other ?_ _ (by first | omega | (simp; done) | (simp; omega))))); done)); intro rz) | (refine with_fact (p := Row W2 (W1.heap.size + 1) (.cells #[.string ⟨#[]⟩, .string ⟨#[]⟩, .string ⟨#[]⟩, .string ⟨#[]⟩] 29)) ?_ ?_; (focus (refine Row.below ?_ h1; (repeat (first | (with_reducible exact row_new' (by first | omega | (simp; done) | (simp; omega))) | (with_reducible refine Row.drew ?_) | (with_reducible refine Row.drewN ?_ _) | (with_reducible refine Row.alloc ?_ _) | (with_reducible apply Row.set4) | (with_reducible apply Row.set4a) | (with_reducible apply Row.set4b) | (with_reducible apply Row.set2) | (with_reducible apply Row.set1) | (with_reducible refine Row.set_other ?_ _ (by first | omega | (simp; done) | (simp; omega))))); done)); intro rz) | skip); replace ra : Row W2 ba (.cells #[.string alon, .string alod, .string ahin, .string ahid] 29) := Row.below C3_ra h1; replace rb : Row W2 bb (.cells #[.string blon, .string blod, .string bhin, .string bhid] 29) := Row.below C3_rb h1; replace ro : Row W2 w.heap.size (.cells #[.string ⟨#[]⟩, .string ⟨#[]⟩, .string ⟨#[]⟩, .string ⟨#[]⟩] 29) := Row.below C3_ro h1; replace hB := below_step (a := w) h1 C1_hB; (first | (refine with_fact (Row.cells4 rz) ?_; rintro ⟨_, z0, z1, z2, z3, zf0, zf1, zf2, zf3⟩) | skip)))
    all_goals (have wl2 := Row.lt ro; refine ⟨rfl, _, _, _, _, _, _, _, _, _, _, _, _, _, _, _, _, rfl, ?_, ?_, ?_, ?_⟩)
    all_goals first | (with_reducible exact hB) | (with_reducible exact ro) | ((repeat (first | (with_reducible exact hB) | (with_reducible exact Below.refl _ _) | (with_reducible refine Below.drew ?_) | (with_reducible refine below_drewN ?_ _) | (with_reducible refine Below.alloc ?_ (by first | omega | (simp; done) | (simp; omega)) _) | (with_reducible refine Below.setCell ?_ (by first | omega | (simp; done) | (simp; omega)) _))); done) | ((repeat (first | (with_reducible exact ro) | (with_reducible exact row_new' (by first | omega | (simp; done) | (simp; omega))) | (with_reducible refine Row.drew ?_) | (with_reducible refine Row.drewN ?_ _) | (with_reducible refine Row.alloc ?_ _) | (with_reducible apply Row.set4) | (with_reducible apply Row.set4a) | (with_reducible apply Row.set4b) | (with_reducible apply Row.set2) | (with_reducible apply Row.set1) | (with_reducible refine Row.set_other ?_ _ (by first | omega | (simp; done) | (simp; omega))))); done) | ((repeat (first | (with_reducible exact rz) | (with_reducible exact row_new' (by first | omega | (simp; done) | (simp; omega))) | (with_reducible refine Row.drew ?_) | (with_reducible refine Row.drewN ?_ _) | (with_reducible refine Row.alloc ?_ _) | (with_reducible apply Row.set4) | (with_reducible apply Row.set4a) | (with_reducible apply Row.set4b) | (with_reducible apply Row.set2) | (with_reducible apply Row.set1) | (with_reducible refine Row.set_other ?_ _ (by first | omega | (simp; done) | (simp; omega))))); done) | ((repeat (first | (with_reducible exact row_new' (by first | omega | (simp; done) | (simp; omega))) | (with_reducible refine Row.drew ?_) | (with_reducible refine Row.drewN ?_ _) | (with_reducible refine Row.alloc ?_ _) | (with_reducible apply Row.set4) | (with_reducible apply Row.set4a) | (with_reducible apply Row.set4b) | (with_reducible apply Row.set2) | (with_reducible apply Row.set1) | (with_reducible refine Row.set_other ?_ _ (by first | omega | (simp; done) | (simp; omega))))); done) | omega
  case rest =>
    clear M0 M1 KK hfd0 hfd1 ra rb ro hB
    rintro ex ac wx ⟨rfl, bo, u4, u5, u6, u7, u8, u9, u10, u11, u12, u13, u14, u15, u16, u17, u18, rfl, hB, ro, rz, hne⟩
    obtain ⟨so, co0, co1, co2, co3, fo0, fo1, fo2, fo3⟩ := Row.cells4 ro
    obtain ⟨sz, cz0, cz1, cz2, cz3, fz0, fz1, fz2, fz3⟩ := Row.cells4 rz
    go_wp2_with fail
    refine (MV _ (he.env.below hB)).mono ?_
    rintro e W1 ⟨rfl, h1⟩
    clear so co0 co1 co2 co3 fo0 fo1 fo2 fo3
    clear sz cz0 cz1 cz2 cz3 fz0 fz1 fz2 fz3
    replace hB := hB.trans (h1.mono hB.size)
    replace ro := Row.below ro h1
    replace rz := Row.below rz h1
    clear h1
    obtain ⟨so, co0, co1, co2, co3, fo0, fo1, fo2, fo3⟩ := Row.cells4 ro
    obtain ⟨sz, cz0, cz1, cz2, cz3, fz0, fz1, fz2, fz3⟩ := Row.cells4 rz
    go_wp2_with fail
    refine (MT _ (he.below hB)).mono ?_
    rintro e W9 ⟨rfl, h1⟩
    exact ⟨rfl, rfl, hB.trans (h1.mono hB.size)⟩
set_option maxRecDepth 100000 in
set_option maxHeartbeats 4000000 in
theorem emeet {j k : Nat} {a b : Iv} (da : IDig j a) (db : IDig k b) (oa : a.Ok) (ob : b.Ok) (ho : (meetI a b).Ok) (hjk : j + k ≤ 200) (w : World) (he : Env w) :
    Calls Tryz.prog 53 #[I a, I b] w (ivOk (fun v => v = meetI a b) w) := by
  have egG : ∀ args w, (callFunc 112 args).run Tryz.prog w = .ok (.enter 112 args) w := enters_of Tryz.func112 (by kernel_rfl) rfl
  have egC : ∀ args w, (callFunc 131 args).run Tryz.prog w = .ok (.enter 131 args) w := enters_of Tryz.func131 (by kernel_rfl) rfl
  have hB : Below w.heap.size w w := Below.refl _ _
  show Calls Tryz.prog 53 #[.agg #[.string (S a.lo.num), .string (S (a.lo.den : Int)), .string (S a.hi.num), .string (S (a.hi.den : Int))], .agg #[.string (S b.lo.num), .string (S (b.lo.den : Int)), .string (S b.hi.num), .string (S (b.hi.den : Int))]] w _
  go_enter Tryz.func53, Tryz.ntmps53
  have hmf : ∀ (fn : Fn) (first cap : Array Value) (w : World), (Instr.makeFunc fn first cap).run Tryz.prog w = .ok (.func fn first cap) w := fun _ _ _ _ => rfl
  go_wp2_with fail
  have sB := hB.size
  refine world_cut (fun X => Below w.heap.size w X ∧ Row X w.heap.size (.cells #[.string (S a.lo.num), .string (S (a.lo.den : Int)), .string (S a.hi.num), .string (S (a.hi.den : Int))] 29) ∧ Row X (w.heap.size + 1) (.cells #[.string (S b.lo.num), .string (S (b.lo.den : Int)), .string (S b.hi.num), .string (S (b.hi.den : Int))] 29) ∧ Row X (w.heap.size + 1 + 1) (.cells #[.string ⟨#[]⟩, .string ⟨#[]⟩, .string ⟨#[]⟩, .string ⟨#[]⟩] 29) ∧ Row X (w.heap.size + 1 + 1 + 1) (.cells #[.string (S a.lo.num), .string (S (a.lo.den : Int)), .string (S a.hi.num), .string (S (a.hi.den : Int)), .string (S b.lo.num), .string (S (b.lo.den : Int)), .string (S b.hi.num), .string (S (b.hi.den : Int))] 29)) ⟨C1_hB, C2, C2, C2, C2⟩ ?_
  clear hB sB
  rintro V1 ⟨hB, ra, rb, ro, rs⟩
  obtain ⟨sa, ca0, ca1, ca2, ca3, fa0, fa1, fa2, fa3⟩ := Row.cells4 ra
  obtain ⟨sb, cb0, cb1, cb2, cb3, fb0, fb1, fb2, fb3⟩ := Row.cells4 rb
  obtain ⟨so, co0, co1, co2, co3, fo0, fo1, fo2, fo3⟩ := Row.cells4 ro
  obtain ⟨ss, cs0, cs1, cs2, cs3, cs4, cs5, cs6, cs7⟩ := Row.cells8 rs
  refine (ivcompute_ok 112 _ _ 2 (fun v => v = meetI a b) _ egG (fun W h => contains2 131 egC _ a b W (Row.below rs h) (fun W2 h2 => ivbad a (da.mono (by omega)) oa W2 ((he.below (hB.trans (h.mono hB.size))).below h2)) (fun W2 h2 => ivbad b (db.mono (by omega)) ob W2 ((he.below (hB.trans (h.mono hB.size))).below h2))) (fun W h => (emeet1 _ _ j k a b da db hjk ho W (he.below (hB.trans (h.mono hB.size))) (Row.below ra h) (Row.below rb h)).mono fun e w' hh => ⟨_, rfl, hh.1, hh.2⟩)).mono ?_
  rintro e W1 ⟨v, pv, rfl, h1⟩
  have PV := Lib.hid pv
  clear pv
  clear sa ca0 ca1 ca2 ca3 fa0 fa1 fa2 fa3
  clear sb cb0 cb1 cb2 cb3 fb0 fb1 fb2 fb3
  clear so co0 co1 co2 co3 fo0 fo1 fo2 fo3
  clear ss cs0 cs1 cs2 cs3 cs4 cs5 cs6 cs7
  replace hB := hB.trans (h1.mono hB.size)
  replace ra := Row.below ra h1
  replace rb := Row.below rb h1
  replace ro := Row.below ro h1
  replace rs := Row.below rs h1
  clear h1
  obtain ⟨sa, ca0, ca1, ca2, ca3, fa0, fa1, fa2, fa3⟩ := Row.cells4 ra
  obtain ⟨sb, cb0, cb1, cb2, cb3, fb0, fb1, fb2, fb3⟩ := Row.cells4 rb
  obtain ⟨so, co0, co1, co2, co3, fo0, fo1, fo2, fo3⟩ := Row.cells4 ro
  obtain ⟨ss, cs0, cs1, cs2, cs3, cs4, cs5, cs6, cs7⟩ := Row.cells8 rs
  clear hmf egG egC
  unfold I
  go_wp2
  have sB := hB.size
  refine post_cut (fun X => Below w.heap.size w X ∧ Row X w.heap.size (.cells #[.string (S a.lo.num), .string (S (a.lo.den : Int)), .string (S a.hi.num), .string (S (a.hi.den : Int))] 29) ∧ Row X (w.heap.size + 1) (.cells #[.string (S b.lo.num), .string (S (b.lo.den : Int)), .string (S b.hi.num), .string (S (b.hi.den : Int))] 29) ∧ Row X (w.heap.size + 1 + 1) (.cells #[.string (S v.lo.num), .string (S (v.lo.den : Int)), .string (S v.hi.num), .string (S (v.hi.den : Int))] 29) ∧ Row X (w.heap.size + 1 + 1 + 1) (.cells #[.string (S a.lo.num), .string (S (a.lo.den : Int)), .string (S a.hi.num), .string (S (a.hi.den : Int)), .string (S b.lo.num), .string (S (b.lo.den : Int)), .string (S b.hi.num), .string (S (b.hi.den : Int))] 29)) ⟨C1_hB, C3_ra, C3_rb, C3_ro, C3_rs⟩ ?_
  clear ra
  clear sa ca0 ca1 ca2 ca3 fa0 fa1 fa2 fa3
  clear rb
  clear sb cb0 cb1 cb2 cb3 fb0 fb1 fb2 fb3
  clear ro
  clear so co0 co1 co2 co3 fo0 fo1 fo2 fo3
  clear rs
  clear ss cs0 cs1 cs2 cs3 cs4 cs5 cs6 cs7
  clear hB sB
  rintro V2 ⟨hB, ra, rb, ro, rs⟩
  obtain ⟨sa, ca0, ca1, ca2, ca3, fa0, fa1, fa2, fa3⟩ := Row.cells4 ra
  obtain ⟨sb, cb0, cb1, cb2, cb3, fb0, fb1, fb2, fb3⟩ := Row.cells4 rb
  obtain ⟨so, co0, co1, co2, co3, fo0, fo1, fo2, fo3⟩ := Row.cells4 ro
  obtain ⟨ss, cs0, cs1, cs2, cs3, cs4, cs5, cs6, cs7⟩ := Row.cells8 rs
  refine bodyPost_ret (v := .tuple #[.agg #[.string (S v.lo.num), .string (S (v.lo.den : Int)), .string (S v.hi.num), .string (S (v.hi.den : Int))], .int .i64 0]) ?res rfl ⟨_, PV.out, rfl, hB⟩
  case res => simp [results, Tryz.results53, go_sem, co0, co1, co2, co3]
set_option maxRecDepth 100000 in
set_option maxHeartbeats 4000000 in
theorem emeet_err {j k : Nat} {a0 : Addr} {a b : Iv} (da : IDig j a) (db : IDig k b) (oa : a.Ok) (ob : b.Ok) (ho : ¬ (meetI a b).Ok) (hjk : j + k ≤ 200) (w : World) (he : EnvE a0 w) :
    Calls Tryz.prog 53 #[I a, I b] w (ivErr w) := by
  have egG : ∀ args w, (callFunc 112 args).run Tryz.prog w = .ok (.enter 112 args) w := enters_of Tryz.func112 (by kernel_rfl) rfl
  have egC : ∀ args w, (callFunc 131 args).run Tryz.prog w = .ok (.enter 131 args) w := enters_of Tryz.func131 (by kernel_rfl) rfl
  have hB : Below w.heap.size w w := Below.refl _ _
  show Calls Tryz.prog 53 #[.agg #[.string (S a.lo.num), .string (S (a.lo.den : Int)), .string (S a.hi.num), .string (S (a.hi.den : Int))], .agg #[.string (S b.lo.num), .string (S (b.lo.den : Int)), .string (S b.hi.num), .string (S (b.hi.den : Int))]] w _
  go_enter Tryz.func53, Tryz.ntmps53
  have hmf : ∀ (fn : Fn) (first cap : Array Value) (w : World), (Instr.makeFunc fn first cap).run Tryz.prog w = .ok (.func fn first cap) w := fun _ _ _ _ => rfl
  go_wp2_with fail
  have sB := hB.size
  refine world_cut (fun X => Below w.heap.size w X ∧ Row X w.heap.size (.cells #[.string (S a.lo.num), .string (S (a.lo.den : Int)), .string (S a.hi.num), .string (S (a.hi.den : Int))] 29) ∧ Row X (w.heap.size + 1) (.cells #[.string (S b.lo.num), .string (S (b.lo.den : Int)), .string (S b.hi.num), .string (S (b.hi.den : Int))] 29) ∧ Row X (w.heap.size + 1 + 1) (.cells #[.string ⟨#[]⟩, .string ⟨#[]⟩, .string ⟨#[]⟩, .string ⟨#[]⟩] 29) ∧ Row X (w.heap.size + 1 + 1 + 1) (.cells #[.string (S a.lo.num), .string (S (a.lo.den : Int)), .string (S a.hi.num), .string (S (a.hi.den : Int)), .string (S b.lo.num), .string (S (b.lo.den : Int)), .string (S b.hi.num), .string (S (b.hi.den : Int))] 29)) ⟨C1_hB, C2, C2, C2, C2⟩ ?_
  clear hB sB
  rintro V1 ⟨hB, ra, rb, ro, rs⟩
  obtain ⟨sa, ca0, ca1, ca2, ca3, fa0, fa1, fa2, fa3⟩ := Row.cells4 ra
  obtain ⟨sb, cb0, cb1, cb2, cb3, fb0, fb1, fb2, fb3⟩ := Row.cells4 rb
  obtain ⟨so, co0, co1, co2, co3, fo0, fo1, fo2, fo3⟩ := Row.cells4 ro
  obtain ⟨ss, cs0, cs1, cs2, cs3, cs4, cs5, cs6, cs7⟩ := Row.cells8 rs
  refine (ivcompute_err 112 _ _ 2 a0 _ (he.below hB) egG (fun W h => contains2 131 egC _ a b W (Row.below rs h) (fun W2 h2 => ivbad a (da.mono (by omega)) oa W2 ((he.env.below (hB.trans (h.mono hB.size))).below h2)) (fun W2 h2 => ivbad b (db.mono (by omega)) ob W2 ((he.env.below (hB.trans (h.mono hB.size))).below h2))) (fun W h => emeet1_err a0 _ _ j k a b da db hjk ho W (he.below (hB.trans (h.mono hB.size))) (Row.below ra h) (Row.below rb h))).mono ?_
  rintro e W1 ⟨rfl, h1⟩
  clear sa ca0 ca1 ca2 ca3 fa0 fa1 fa2 fa3
  clear sb cb0 cb1 cb2 cb3 fb0 fb1 fb2 fb3
  clear so co0 co1 co2 co3 fo0 fo1 fo2 fo3
  clear ss cs0 cs1 cs2 cs3 cs4 cs5 cs6 cs7
  replace hB := hB.trans (h1.mono hB.size)
  replace ra := Row.below ra h1
  replace rb := Row.below rb h1
  replace ro := Row.below ro h1
  replace rs := Row.below rs h1
  clear h1
  obtain ⟨sa, ca0, ca1, ca2, ca3, fa0, fa1, fa2, fa3⟩ := Row.cells4 ra
  obtain ⟨sb, cb0, cb1, cb2, cb3, fb0, fb1, fb2, fb3⟩ := Row.cells4 rb
  obtain ⟨so, co0, co1, co2, co3, fo0, fo1, fo2, fo3⟩ := Row.cells4 ro
  obtain ⟨ss, cs0, cs1, cs2, cs3, cs4, cs5, cs6, cs7⟩ := Row.cells8 rs
  clear hmf egG egC
  skip
  go_wp2
  have sB := hB.size
  refine post_cut (fun X => Below w.heap.size w X ∧ Row X w.heap.size (.cells #[.string (S a.lo.num), .string (S (a.lo.den : Int)), .string (S a.hi.num), .string (S (a.hi.den : Int))] 29) ∧ Row X (w.heap.size + 1) (.cells #[.string (S b.lo.num), .string (S (b.lo.den : Int)), .string (S b.hi.num), .string (S (b.hi.den : Int))] 29) ∧ Row X (w.heap.size + 1 + 1) (.cells #[.string ⟨#[]⟩, .string ⟨#[]⟩, .string ⟨#[]⟩, .string ⟨#[]⟩] 29) ∧ Row X (w.heap.size + 1 + 1 + 1) (.cells #[.string (S a.lo.num), .string (S (a.lo.den : Int)), .string (S a.hi.num), .string (S (a.hi.den : Int)), .string (S b.lo.num), .string (S (b.lo.den : Int)), .string (S b.hi.num), .string (S (b.hi.den : Int))] 29)) ⟨C1_hB, C3_ra, C3_rb, C3_ro, C3_rs⟩ ?_
  clear ra
  clear sa ca0 ca1 ca2 ca3 fa0 fa1 fa2 fa3
  clear rb
  clear sb cb0 cb1 cb2 cb3 fb0 fb1 fb2 fb3
  clear ro
  clear so co0 co1 co2 co3 fo0 fo1 fo2 fo3
  clear rs
  clear ss cs0 cs1 cs2 cs3 cs4 cs5 cs6 cs7
  clear hB sB
  rintro V2 ⟨hB, ra, rb, ro, rs⟩
  obtain ⟨sa, ca0, ca1, ca2, ca3, fa0, fa1, fa2, fa3⟩ := Row.cells4 ra
  obtain ⟨sb, cb0, cb1, cb2, cb3, fb0, fb1, fb2, fb3⟩ := Row.cells4 rb
  obtain ⟨so, co0, co1, co2, co3, fo0, fo1, fo2, fo3⟩ := Row.cells4 ro
  obtain ⟨ss, cs0, cs1, cs2, cs3, cs4, cs5, cs6, cs7⟩ := Row.cells8 rs
  refine bodyPost_ret (v := .tuple #[.agg #[.string ⟨#[]⟩, .string ⟨#[]⟩, .string ⟨#[]⟩, .string ⟨#[]⟩], .int .i64 50]) ?res rfl ⟨rfl, hB⟩
  case res => simp [results, Tryz.results53, go_sem, co0, co1, co2, co3]
end Go.Proofs.YtngohpgkceedeaaGreatDoor
