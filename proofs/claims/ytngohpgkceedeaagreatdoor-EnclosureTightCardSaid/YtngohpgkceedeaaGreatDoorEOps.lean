/-
  Package enclosure: ends, and what the closures of the exported functions compute.
-/
import Derived.Test.YtngohpgkceedeaaGreatDoorEHull
import Derived.Deep.RegionWith
import Derived.Test.YtngohpgkceedeaaGreatDoorChains
set_option linter.unusedSimpArgs false
set_option linter.unusedVariables false
namespace Go.Proofs.YtngohpgkceedeaaGreatDoor
open Go Go.RowKit Go.Lib Go.Shelf

/-- An interval lies in a block. -/
def IvRow (W : World) (b : Nat) (a : Iv) : Prop := Row W b (.cells #[.string (S a.lo.num), .string (S (a.lo.den : Int)), .string (S a.hi.num), .string (S (a.hi.den : Int))] 29)
theorem IvRow.below {W W' : World} {b : Nat} {a : Iv} (h : IvRow W b a) (hb : Below W.heap.size W W') : IvRow W' b a := Row.below h hb
theorem IvRow.facts {W : World} {b : Nat} {a : Iv} (h : IvRow W b a) : W.cell? ⟨b, 0, none⟩ = some (.string (S a.lo.num)) ∧ W.cell? ⟨b, 1, none⟩ = some (.string (S (a.lo.den : Int))) ∧ W.cell? ⟨b, 2, none⟩ = some (.string (S a.hi.num)) ∧ W.cell? ⟨b, 3, none⟩ = some (.string (S (a.hi.den : Int))) :=
  have h := Row.cells4 h
  ⟨h.2.1, h.2.2.1, h.2.2.2.1, h.2.2.2.2.1⟩
set_option maxRecDepth 100000 in
set_option maxHeartbeats 4000000 in
theorem eends (F : FuncId) (eg : ∀ args w, (callFunc F args).run Tryz.prog w = .ok (.enter F args) w) (a b : Iv) (c0 c1 c2 c3 : Rat) (d0 : QDig 200 c0) (d1 : QDig 200 c1) (d2 : QDig 200 c2) (d3 : QDig 200 c3) (w : World) (he : Env w)
    (H0 : ∀ W, Env W → Calls Tryz.prog F #[Q a.lo, Q b.lo] W (QOk c0 W)) (H1 : ∀ W, Env W → Calls Tryz.prog F #[Q a.lo, Q b.hi] W (QOk c1 W)) (H2 : ∀ W, Env W → Calls Tryz.prog F #[Q a.hi, Q b.lo] W (QOk c2 W)) (H3 : ∀ W, Env W → Calls Tryz.prog F #[Q a.hi, Q b.hi] W (QOk c3 W)) :
    Calls Tryz.prog 103 #[.func (.func F) #[] #[], I a, I b] w fun e w' => e = .returned (I ⟨min4 c0 c1 c2 c3, max4 c0 c1 c2 c3⟩) ∧ Below w.heap.size w w' := by
  obtain ⟨ra, rb, ro, hB⟩ : Row (((w.alloc (.cells #[.string (S a.lo.num), .string (S (a.lo.den : Int)), .string (S a.hi.num), .string (S (a.hi.den : Int))] 29)).alloc (.cells #[.string (S b.lo.num), .string (S (b.lo.den : Int)), .string (S b.hi.num), .string (S (b.hi.den : Int))] 29)).alloc (.cells #[.string ⟨#[]⟩, .string ⟨#[]⟩, .string ⟨#[]⟩, .string ⟨#[]⟩] 29)) w.heap.size (.cells #[.string (S a.lo.num), .string (S (a.lo.den : Int)), .string (S a.hi.num), .string (S (a.hi.den : Int))] 29) ∧ Row (((w.alloc (.cells #[.string (S a.lo.num), .string (S (a.lo.den : Int)), .string (S a.hi.num), .string (S (a.hi.den : Int))] 29)).alloc (.cells #[.string (S b.lo.num), .string (S (b.lo.den : Int)), .string (S b.hi.num), .string (S (b.hi.den : Int))] 29)).alloc (.cells #[.string ⟨#[]⟩, .string ⟨#[]⟩, .string ⟨#[]⟩, .string ⟨#[]⟩] 29)) (w.heap.size + 1) (.cells #[.string (S b.lo.num), .string (S (b.lo.den : Int)), .string (S b.hi.num), .string (S (b.hi.den : Int))] 29) ∧ Row (((w.alloc (.cells #[.string (S a.lo.num), .string (S (a.lo.den : Int)), .string (S a.hi.num), .string (S (a.hi.den : Int))] 29)).alloc (.cells #[.string (S b.lo.num), .string (S (b.lo.den : Int)), .string (S b.hi.num), .string (S (b.hi.den : Int))] 29)).alloc (.cells #[.string ⟨#[]⟩, .string ⟨#[]⟩, .string ⟨#[]⟩, .string ⟨#[]⟩] 29)) (w.heap.size + 1 + 1) (.cells #[.string ⟨#[]⟩, .string ⟨#[]⟩, .string ⟨#[]⟩, .string ⟨#[]⟩] 29) ∧ Below w.heap.size w (((w.alloc (.cells #[.string (S a.lo.num), .string (S (a.lo.den : Int)), .string (S a.hi.num), .string (S (a.hi.den : Int))] 29)).alloc (.cells #[.string (S b.lo.num), .string (S (b.lo.den : Int)), .string (S b.hi.num), .string (S (b.hi.den : Int))] 29)).alloc (.cells #[.string ⟨#[]⟩, .string ⟨#[]⟩, .string ⟨#[]⟩, .string ⟨#[]⟩] 29)) := by
    refine ⟨C2, C2, C2, ?_⟩
    have hB := Below.refl w.heap.size w
    exact C1_hB
  show Calls Tryz.prog 103 #[.func (.func F) #[] #[], .agg #[.string (S a.lo.num), .string (S (a.lo.den : Int)), .string (S a.hi.num), .string (S (a.hi.den : Int))], .agg #[.string (S b.lo.num), .string (S (b.lo.den : Int)), .string (S b.hi.num), .string (S (b.hi.den : Int))]] w _
  have KA : ∀ X, Row X w.heap.size (.cells #[.string (S a.lo.num), .string (S (a.lo.den : Int)), .string (S a.hi.num), .string (S (a.hi.den : Int))] 29) → (X.cell? ⟨w.heap.size, 0, none⟩ = some (.string (S a.lo.num)) ∧ X.cell? ⟨w.heap.size, 1, none⟩ = some (.string (S (a.lo.den : Int))) ∧ X.cell? ⟨w.heap.size, 2, none⟩ = some (.string (S a.hi.num)) ∧ X.cell? ⟨w.heap.size, 3, none⟩ = some (.string (S (a.hi.den : Int)))) := fun X h => IvRow.facts h
  have KB : ∀ X, Row X (w.heap.size + 1) (.cells #[.string (S b.lo.num), .string (S (b.lo.den : Int)), .string (S b.hi.num), .string (S (b.hi.den : Int))] 29) → (X.cell? ⟨w.heap.size + 1, 0, none⟩ = some (.string (S b.lo.num)) ∧ X.cell? ⟨w.heap.size + 1, 1, none⟩ = some (.string (S (b.lo.den : Int))) ∧ X.cell? ⟨w.heap.size + 1, 2, none⟩ = some (.string (S b.hi.num)) ∧ X.cell? ⟨w.heap.size + 1, 3, none⟩ = some (.string (S (b.hi.den : Int)))) := fun X h => IvRow.facts h
  have KK : ∀ X, Row X w.heap.size (.cells #[.string (S a.lo.num), .string (S (a.lo.den : Int)), .string (S a.hi.num), .string (S (a.hi.den : Int))] 29) → Row X (w.heap.size + 1) (.cells #[.string (S b.lo.num), .string (S (b.lo.den : Int)), .string (S b.hi.num), .string (S (b.hi.den : Int))] 29) → (X.cell? ⟨w.heap.size, 0, none⟩ = some (.string (S a.lo.num)) ∧ X.cell? ⟨w.heap.size, 1, none⟩ = some (.string (S (a.lo.den : Int))) ∧ X.cell? ⟨w.heap.size, 2, none⟩ = some (.string (S a.hi.num)) ∧ X.cell? ⟨w.heap.size, 3, none⟩ = some (.string (S (a.hi.den : Int))) ∧ X.cell? ⟨w.heap.size + 1, 0, none⟩ = some (.string (S b.lo.num)) ∧ X.cell? ⟨w.heap.size + 1, 1, none⟩ = some (.string (S (b.lo.den : Int))) ∧ X.cell? ⟨w.heap.size + 1, 2, none⟩ = some (.string (S b.hi.num)) ∧ X.cell? ⟨w.heap.size + 1, 3, none⟩ = some (.string (S (b.hi.den : Int)))) := fun X h1 h2 => ⟨(KA X h1).1, (KA X h1).2.1, (KA X h1).2.2.1, (KA X h1).2.2.2, KB X h2⟩
  have M0 := fun W (h : Env W) => eof F eg a.lo b.lo c0 W (fun W2 h2 => H0 W2 (h.below h2))
  have M1 := fun W (h : Env W) => eof F eg a.lo b.hi c1 W (fun W2 h2 => H1 W2 (h.below h2))
  have M2 := fun W (h : Env W) => eof F eg a.hi b.lo c2 W (fun W2 h2 => H2 W2 (h.below h2))
  have M3 := fun W (h : Env W) => eof F eg a.hi b.hi c3 W (fun W2 h2 => H3 W2 (h.below h2))
  have MH := fun s W (h : Env W) r => ehull4 s c0 c1 c2 c3 d0 d1 d2 d3 W h r
  unfold QIs Q at M0 M1 M2 M3
  unfold I at MH
  unfold I
  simp only at MH
  clear H0 H1 H2 H3 d0 d1 d2 d3
  generalize S a.lo.num = alon at *
  generalize S (a.lo.den : Int) = alod at *
  generalize S a.hi.num = ahin at *
  generalize S (a.hi.den : Int) = ahid at *
  generalize S b.lo.num = blon at *
  generalize S (b.lo.den : Int) = blod at *
  generalize S b.hi.num = bhin at *
  generalize S (b.hi.den : Int) = bhid at *
  generalize S c0.num = n0 at *
  generalize S (c0.den : Int) = e0 at *
  generalize S c1.num = n1 at *
  generalize S (c1.den : Int) = e1 at *
  generalize S c2.num = n2 at *
  generalize S (c2.den : Int) = e2 at *
  generalize S c3.num = n3 at *
  generalize S (c3.den : Int) = e3 at *
  go_enter Tryz.func103, Tryz.ntmps103
  go_wp2_with fail
  generalize ((w.alloc (.cells #[.string alon, .string alod, .string ahin, .string ahid] 29)).alloc (.cells #[.string blon, .string blod, .string bhin, .string bhid] 29)).alloc (.cells #[.string ⟨#[]⟩, .string ⟨#[]⟩, .string ⟨#[]⟩, .string ⟨#[]⟩] 29) = W0 at *
  go_region_held3 (fun X => X.cell? ⟨w.heap.size, 0, none⟩ = some (.string alon) ∧ X.cell? ⟨w.heap.size, 1, none⟩ = some (.string alod) ∧ X.cell? ⟨w.heap.size, 2, none⟩ = some (.string ahin) ∧ X.cell? ⟨w.heap.size, 3, none⟩ = some (.string ahid) ∧ X.cell? ⟨w.heap.size + 1, 0, none⟩ = some (.string blon) ∧ X.cell? ⟨w.heap.size + 1, 1, none⟩ = some (.string blod) ∧ X.cell? ⟨w.heap.size + 1, 2, none⟩ = some (.string bhin) ∧ X.cell? ⟨w.heap.size + 1, 3, none⟩ = some (.string bhid)) (first | exact KK _ C3_ra C3_rb) (first
      | (go_at_call 139; with_reducible refine (M0 _ (by first | exact he.below hB | exact he.below hB.drew | exact he.below (below_drewN hB _))).mono ?_; rintro e W ⟨rfl, h1⟩; (try replace h1 := below_of_drew h1); replace hB := hB.trans (h1.mono hB.size); replace ra := Row.below ra h1; replace rb := Row.below rb h1; replace ro := Row.below ro h1)
      | (go_at_call 139; with_reducible refine (M1 _ (by first | exact he.below hB | exact he.below hB.drew | exact he.below (below_drewN hB _))).mono ?_; rintro e W ⟨rfl, h1⟩; (try replace h1 := below_of_drew h1); replace hB := hB.trans (h1.mono hB.size); replace ra := Row.below ra h1; replace rb := Row.below rb h1; replace ro := Row.below ro h1)
      | (go_at_call 139; with_reducible refine (M2 _ (by first | exact he.below hB | exact he.below hB.drew | exact he.below (below_drewN hB _))).mono ?_; rintro e W ⟨rfl, h1⟩; (try replace h1 := below_of_drew h1); replace hB := hB.trans (h1.mono hB.size); replace ra := Row.below ra h1; replace rb := Row.below rb h1; replace ro := Row.below ro h1)
      | (go_at_call 139; with_reducible refine (M3 _ (by first | exact he.below hB | exact he.below hB.drew | exact he.below (below_drewN hB _))).mono ?_; rintro e W ⟨rfl, h1⟩; (try replace h1 := below_of_drew h1); replace hB := hB.trans (h1.mono hB.size); replace ra := Row.below ra h1; replace rb := Row.below rb h1; replace ro := Row.below ro h1)
      | (go_at_call 113; with_reducible refine (MH _ _ (by first | exact he.below (hB.alloc hB.size _) | exact he.below (hB.alloc hB.size _).drew | exact he.below (below_drewN (hB.alloc hB.size _) _)) (row_new _ _)).mono ?_; rintro e W ⟨rfl, h1⟩; (try replace h1 := below_of_drew h1); replace hB := (hB.alloc hB.size _).trans (h1.mono (hB.alloc hB.size _).size); replace ra := Row.below (Row.alloc ra _) h1; replace rb := Row.below (Row.alloc rb _) h1; replace ro := Row.below (Row.alloc ro _) h1; obtain ⟨so, co0, co1, co2, co3, fo0, fo1, fo2, fo3⟩ := Row.cells4 ro))
  go_wp2
  have sB := hB.size
  refine post_cut (fun X => Below w.heap.size w X ∧ Row X (w.heap.size + 1 + 1) (.cells #[.string (S (min4 c0 c1 c2 c3).num), .string (S ((min4 c0 c1 c2 c3).den : Int)), .string (S (max4 c0 c1 c2 c3).num), .string (S ((max4 c0 c1 c2 c3).den : Int))] 29)) ⟨C1_hB, C3_ro⟩ ?_
  clear ro
  clear so co0 co1 co2 co3 fo0 fo1 fo2 fo3
  clear hB sB
  rintro V1 ⟨hB, ro⟩
  obtain ⟨so, co0, co1, co2, co3, fo0, fo1, fo2, fo3⟩ := Row.cells4 ro
  refine bodyPost_ret (v := .agg #[.string (S (min4 c0 c1 c2 c3).num), .string (S ((min4 c0 c1 c2 c3).den : Int)), .string (S (max4 c0 c1 c2 c3).num), .string (S ((max4 c0 c1 c2 c3).den : Int))]) ?res rfl ⟨rfl, hB⟩
  case res => simp [results, Tryz.results103, go_sem, co0, co1, co2, co3]
set_option maxRecDepth 100000 in
set_option maxHeartbeats 4000000 in
theorem eadd1 (bp ba bb j k : Nat) (a b : Iv) (da : IDig j a) (db : IDig k b) (hjk : j + k + 1 ≤ 200) (w : World) (he : Env w) (rp : Row w bp (.cells #[.func (.func 24) #[] #[]] 123)) (ra : IvRow w ba a) (rb : IvRow w bb b) :
    Calls Tryz.prog 138 #[.pointer (some ⟨bp, 0, none⟩), .pointer (some ⟨ba, 0, none⟩), .pointer (some ⟨bb, 0, none⟩)] w fun e w' => e = .returned (I (addI a b)) ∧ Below w.heap.size w w' := by
  have eg : ∀ args w, (callFunc 24 args).run Tryz.prog w = .ok (.enter 24 args) w := enters_of Tryz.func24 (by kernel_rfl) rfl
  have M0 := fun W (h : Env W) => eof 24 eg a.lo b.lo (a.lo + b.lo) W (fun W2 h2 => qadd (da.1) (db.1) hjk W2 (h.below h2))
  have M1 := fun W (h : Env W) => eof 24 eg a.hi b.hi (a.hi + b.hi) W (fun W2 h2 => qadd (da.2) (db.2) hjk W2 (h.below h2))
  unfold QIs Q at M0 M1
  unfold I addI
  simp only
  have KK : ∀ X, Row X bp (.cells #[.func (.func 24) #[] #[]] 123) → IvRow X ba a → IvRow X bb b → (X.cell? ⟨bp, 0, none⟩ = some (.func (.func 24) #[] #[]) ∧ X.cell? ⟨ba, 0, none⟩ = some (.string (S a.lo.num)) ∧ X.cell? ⟨ba, 1, none⟩ = some (.string (S (a.lo.den : Int))) ∧ X.cell? ⟨ba, 2, none⟩ = some (.string (S a.hi.num)) ∧ X.cell? ⟨ba, 3, none⟩ = some (.string (S (a.hi.den : Int))) ∧ X.cell? ⟨bb, 0, none⟩ = some (.string (S b.lo.num)) ∧ X.cell? ⟨bb, 1, none⟩ = some (.string (S (b.lo.den : Int))) ∧ X.cell? ⟨bb, 2, none⟩ = some (.string (S b.hi.num)) ∧ X.cell? ⟨bb, 3, none⟩ = some (.string (S (b.hi.den : Int)))) := fun X h0 h1 h2 => ⟨(Row.cells1 h0).2.1, h1.facts.1, h1.facts.2.1, h1.facts.2.2.1, h1.facts.2.2.2, h2.facts⟩
  have sp := rp.1
  have sa := ra.1
  have sb := rb.1
  unfold IvRow at *
  clear da db hjk eg
  generalize a.lo + b.lo = x at *
  generalize a.hi + b.hi = y at *
  generalize S a.lo.num = alon at *
  generalize S (a.lo.den : Int) = alod at *
  generalize S a.hi.num = ahin at *
  generalize S (a.hi.den : Int) = ahid at *
  generalize S b.lo.num = blon at *
  generalize S (b.lo.den : Int) = blod at *
  generalize S b.hi.num = bhin at *
  generalize S (b.hi.den : Int) = bhid at *
  have hB : Below w.heap.size w w := Below.refl _ _
  go_enter Tryz.func138, Tryz.ntmps138
  go_wp2_with fail
  refine wp_cut (fun X => Below w.heap.size w X ∧ Row X bp (.cells #[.func (.func 24) #[] #[]] 123) ∧ Row X ba (.cells #[.string alon, .string alod, .string ahin, .string ahid] 29) ∧ Row X bb (.cells #[.string blon, .string blod, .string bhin, .string bhid] 29) ∧ Row X w.heap.size (.cells #[.string ⟨#[]⟩, .string ⟨#[]⟩, .string ⟨#[]⟩, .string ⟨#[]⟩] 29)) ⟨C1_hB, rp.alloc _, ra.alloc _, rb.alloc _, C2⟩ ?_
  clear hB rp ra rb
  rintro V ⟨hB, rp, ra, rb, ro⟩
  obtain ⟨so, co0, co1, co2, co3, fo0, fo1, fo2, fo3⟩ := Row.cells4 ro
  go_region_held3 (fun X => X.cell? ⟨bp, 0, none⟩ = some (.func (.func 24) #[] #[]) ∧ X.cell? ⟨ba, 0, none⟩ = some (.string alon) ∧ X.cell? ⟨ba, 1, none⟩ = some (.string alod) ∧ X.cell? ⟨ba, 2, none⟩ = some (.string ahin) ∧ X.cell? ⟨ba, 3, none⟩ = some (.string ahid) ∧ X.cell? ⟨bb, 0, none⟩ = some (.string blon) ∧ X.cell? ⟨bb, 1, none⟩ = some (.string blod) ∧ X.cell? ⟨bb, 2, none⟩ = some (.string bhin) ∧ X.cell? ⟨bb, 3, none⟩ = some (.string bhid)) (first | exact KK _ C3_rp C3_ra C3_rb) (first
      | (go_at_call 139; with_reducible refine (M0 _ (by first | exact he.below hB | exact he.below hB.drew | exact he.below (below_drewN hB _))).mono ?_; rintro e W ⟨rfl, h1⟩; (try replace h1 := below_of_drew h1); replace hB := hB.trans (h1.mono hB.size); replace rp := Row.below rp h1; replace ra := Row.below ra h1; replace rb := Row.below rb h1; replace ro := Row.below ro h1; obtain ⟨so, co0, co1, co2, co3, fo0, fo1, fo2, fo3⟩ := Row.cells4 ro)
      | (go_at_call 139; with_reducible refine (M1 _ (by first | exact he.below hB | exact he.below hB.drew | exact he.below (below_drewN hB _))).mono ?_; rintro e W ⟨rfl, h1⟩; (try replace h1 := below_of_drew h1); replace hB := hB.trans (h1.mono hB.size); replace rp := Row.below rp h1; replace ra := Row.below ra h1; replace rb := Row.below rb h1; replace ro := Row.below ro h1; obtain ⟨so, co0, co1, co2, co3, fo0, fo1, fo2, fo3⟩ := Row.cells4 ro))
  go_wp2
  have sB := hB.size
  refine post_cut (fun X => Below w.heap.size w X ∧ Row X w.heap.size (.cells #[.string (S x.num), .string (S (x.den : Int)), .string (S y.num), .string (S (y.den : Int))] 29)) ⟨C1_hB, C3_ro⟩ ?_
  clear ro
  clear so co0 co1 co2 co3 fo0 fo1 fo2 fo3
  clear hB sB
  rintro V1 ⟨hB, ro⟩
  obtain ⟨so, co0, co1, co2, co3, fo0, fo1, fo2, fo3⟩ := Row.cells4 ro
  refine bodyPost_ret (v := .agg #[.string (S x.num), .string (S (x.den : Int)), .string (S y.num), .string (S (y.den : Int))]) ?res rfl ⟨rfl, hB⟩
  case res => simp [results, Tryz.results138, go_sem, co0, co1, co2, co3]
set_option maxRecDepth 100000 in
set_option maxHeartbeats 4000000 in
theorem esub1 (bp ba bb j k : Nat) (a b : Iv) (da : IDig j a) (db : IDig k b) (hjk : j + k + 1 ≤ 200) (w : World) (he : Env w) (rp : Row w bp (.cells #[.func (.func 20) #[] #[]] 123)) (ra : IvRow w ba a) (rb : IvRow w bb b) :
    Calls Tryz.prog 140 #[.pointer (some ⟨bp, 0, none⟩), .pointer (some ⟨ba, 0, none⟩), .pointer (some ⟨bb, 0, none⟩)] w fun e w' => e = .returned (I (subI a b)) ∧ Below w.heap.size w w' := by
  have eg : ∀ args w, (callFunc 20 args).run Tryz.prog w = .ok (.enter 20 args) w := enters_of Tryz.func20 (by kernel_rfl) rfl
  have M0 := fun W (h : Env W) => eof 20 eg a.lo b.hi (a.lo - b.hi) W (fun W2 h2 => qsub (da.1) (db.2) hjk W2 (h.below h2))
  have M1 := fun W (h : Env W) => eof 20 eg a.hi b.lo (a.hi - b.lo) W (fun W2 h2 => qsub (da.2) (db.1) hjk W2 (h.below h2))
  unfold QIs Q at M0 M1
  unfold I subI
  simp only
  have KK : ∀ X, Row X bp (.cells #[.func (.func 20) #[] #[]] 123) → IvRow X ba a → IvRow X bb b → (X.cell? ⟨bp, 0, none⟩ = some (.func (.func 20) #[] #[]) ∧ X.cell? ⟨ba, 0, none⟩ = some (.string (S a.lo.num)) ∧ X.cell? ⟨ba, 1, none⟩ = some (.string (S (a.lo.den : Int))) ∧ X.cell? ⟨ba, 2, none⟩ = some (.string (S a.hi.num)) ∧ X.cell? ⟨ba, 3, none⟩ = some (.string (S (a.hi.den : Int))) ∧ X.cell? ⟨bb, 0, none⟩ = some (.string (S b.lo.num)) ∧ X.cell? ⟨bb, 1, none⟩ = some (.string (S (b.lo.den : Int))) ∧ X.cell? ⟨bb, 2, none⟩ = some (.string (S b.hi.num)) ∧ X.cell? ⟨bb, 3, none⟩ = some (.string (S (b.hi.den : Int)))) := fun X h0 h1 h2 => ⟨(Row.cells1 h0).2.1, h1.facts.1, h1.facts.2.1, h1.facts.2.2.1, h1.facts.2.2.2, h2.facts⟩
  have sp := rp.1
  have sa := ra.1
  have sb := rb.1
  unfold IvRow at *
  clear da db hjk eg
  generalize a.lo - b.hi = x at *
  generalize a.hi - b.lo = y at *
  generalize S a.lo.num = alon at *
  generalize S (a.lo.den : Int) = alod at *
  generalize S a.hi.num = ahin at *
  generalize S (a.hi.den : Int) = ahid at *
  generalize S b.lo.num = blon at *
  generalize S (b.lo.den : Int) = blod at *
  generalize S b.hi.num = bhin at *
  generalize S (b.hi.den : Int) = bhid at *
  have hB : Below w.heap.size w w := Below.refl _ _
  go_enter Tryz.func140, Tryz.ntmps140
  go_wp2_with fail
  refine wp_cut (fun X => Below w.heap.size w X ∧ Row X bp (.cells #[.func (.func 20) #[] #[]] 123) ∧ Row X ba (.cells #[.string alon, .string alod, .string ahin, .string ahid] 29) ∧ Row X bb (.cells #[.string blon, .string blod, .string bhin, .string bhid] 29) ∧ Row X w.heap.size (.cells #[.string ⟨#[]⟩, .string ⟨#[]⟩, .string ⟨#[]⟩, .string ⟨#[]⟩] 29)) ⟨C1_hB, rp.alloc _, ra.alloc _, rb.alloc _, C2⟩ ?_
  clear hB rp ra rb
  rintro V ⟨hB, rp, ra, rb, ro⟩
  obtain ⟨so, co0, co1, co2, co3, fo0, fo1, fo2, fo3⟩ := Row.cells4 ro
  go_region_held3 (fun X => X.cell? ⟨bp, 0, none⟩ = some (.func (.func 20) #[] #[]) ∧ X.cell? ⟨ba, 0, none⟩ = some (.string alon) ∧ X.cell? ⟨ba, 1, none⟩ = some (.string alod) ∧ X.cell? ⟨ba, 2, none⟩ = some (.string ahin) ∧ X.cell? ⟨ba, 3, none⟩ = some (.string ahid) ∧ X.cell? ⟨bb, 0, none⟩ = some (.string blon) ∧ X.cell? ⟨bb, 1, none⟩ = some (.string blod) ∧ X.cell? ⟨bb, 2, none⟩ = some (.string bhin) ∧ X.cell? ⟨bb, 3, none⟩ = some (.string bhid)) (first | exact KK _ C3_rp C3_ra C3_rb) (first
      | (go_at_call 139; with_reducible refine (M0 _ (by first | exact he.below hB | exact he.below hB.drew | exact he.below (below_drewN hB _))).mono ?_; rintro e W ⟨rfl, h1⟩; (try replace h1 := below_of_drew h1); replace hB := hB.trans (h1.mono hB.size); replace rp := Row.below rp h1; replace ra := Row.below ra h1; replace rb := Row.below rb h1; replace ro := Row.below ro h1; obtain ⟨so, co0, co1, co2, co3, fo0, fo1, fo2, fo3⟩ := Row.cells4 ro)
      | (go_at_call 139; with_reducible refine (M1 _ (by first | exact he.below hB | exact he.below hB.drew | exact he.below (below_drewN hB _))).mono ?_; rintro e W ⟨rfl, h1⟩; (try replace h1 := below_of_drew h1); replace hB := hB.trans (h1.mono hB.size); replace rp := Row.below rp h1; replace ra := Row.below ra h1; replace rb := Row.below rb h1; replace ro := Row.below ro h1; obtain ⟨so, co0, co1, co2, co3, fo0, fo1, fo2, fo3⟩ := Row.cells4 ro))
  go_wp2
  have sB := hB.size
  refine post_cut (fun X => Below w.heap.size w X ∧ Row X w.heap.size (.cells #[.string (S x.num), .string (S (x.den : Int)), .string (S y.num), .string (S (y.den : Int))] 29)) ⟨C1_hB, C3_ro⟩ ?_
  clear ro
  clear so co0 co1 co2 co3 fo0 fo1 fo2 fo3
  clear hB sB
  rintro V1 ⟨hB, ro⟩
  obtain ⟨so, co0, co1, co2, co3, fo0, fo1, fo2, fo3⟩ := Row.cells4 ro
  refine bodyPost_ret (v := .agg #[.string (S x.num), .string (S (x.den : Int)), .string (S y.num), .string (S (y.den : Int))]) ?res rfl ⟨rfl, hB⟩
  case res => simp [results, Tryz.results140, go_sem, co0, co1, co2, co3]
set_option maxRecDepth 100000 in
set_option maxHeartbeats 4000000 in
theorem emul1 (ba bb j k : Nat) (a b : Iv) (da : IDig j a) (db : IDig k b) (hjk : j + k ≤ 200) (w : World) (he : Env w) (ra : IvRow w ba a) (rb : IvRow w bb b) :
    Calls Tryz.prog 102 #[.pointer (some ⟨ba, 0, none⟩), .pointer (some ⟨bb, 0, none⟩)] w fun e w' => e = .returned (I (mulI a b)) ∧ Below w.heap.size w w' := by
  have eg : ∀ args w, (callFunc 25 args).run Tryz.prog w = .ok (.enter 25 args) w := enters_of Tryz.func25 (by kernel_rfl) rfl
  have M := fun W (h : Env W) => eends 25 eg a b _ _ _ _ ((da.1.mul db.1).mono hjk) ((da.1.mul db.2).mono hjk) ((da.2.mul db.1).mono hjk) ((da.2.mul db.2).mono hjk) W h (fun W2 h2 => qmul da.1 db.1 hjk W2 h2) (fun W2 h2 => qmul da.1 db.2 hjk W2 h2) (fun W2 h2 => qmul da.2 db.1 hjk W2 h2) (fun W2 h2 => qmul da.2 db.2 hjk W2 h2)
  change ∀ W, Env W → Calls _ _ _ W (fun e w' => e = .returned (I (mulI a b)) ∧ Below W.heap.size W w') at M
  generalize mulI a b = x at *
  unfold I at *
  clear da db hjk eg
  unfold IvRow at *
  have qa := ra.1
  have qb := rb.1
  have hB : Below w.heap.size w w := Below.refl _ _
  obtain ⟨sa, ca0, ca1, ca2, ca3, fa0, fa1, fa2, fa3⟩ := Row.cells4 ra
  obtain ⟨sb, cb0, cb1, cb2, cb3, fb0, fb1, fb2, fb3⟩ := Row.cells4 rb
  go_enter Tryz.func102, Tryz.ntmps102
  go_wp2_with fail
  have sB := hB.size
  refine world_cut (fun X => Below w.heap.size w X ∧ Row X ba (.cells #[.string (S a.lo.num), .string (S (a.lo.den : Int)), .string (S a.hi.num), .string (S (a.hi.den : Int))] 29) ∧ Row X bb (.cells #[.string (S b.lo.num), .string (S (b.lo.den : Int)), .string (S b.hi.num), .string (S (b.hi.den : Int))] 29) ∧ Row X w.heap.size (.cells #[.string ⟨#[]⟩, .string ⟨#[]⟩, .string ⟨#[]⟩, .string ⟨#[]⟩] 29)) ⟨C1_hB, C3_ra, C3_rb, C2⟩ ?_
  clear ra
  clear sa ca0 ca1 ca2 ca3 fa0 fa1 fa2 fa3
  clear rb
  clear sb cb0 cb1 cb2 cb3 fb0 fb1 fb2 fb3
  clear hB sB
  rintro V1 ⟨hB, ra, rb, ro⟩
  obtain ⟨sa, ca0, ca1, ca2, ca3, fa0, fa1, fa2, fa3⟩ := Row.cells4 ra
  obtain ⟨sb, cb0, cb1, cb2, cb3, fb0, fb1, fb2, fb3⟩ := Row.cells4 rb
  obtain ⟨so, co0, co1, co2, co3, fo0, fo1, fo2, fo3⟩ := Row.cells4 ro
  refine (M _ (he.below hB)).mono ?_
  rintro e W2 ⟨rfl, h1⟩
  clear sa ca0 ca1 ca2 ca3 fa0 fa1 fa2 fa3
  clear sb cb0 cb1 cb2 cb3 fb0 fb1 fb2 fb3
  clear so co0 co1 co2 co3 fo0 fo1 fo2 fo3
  replace hB := hB.trans (h1.mono hB.size)
  replace ra := Row.below ra h1
  replace rb := Row.below rb h1
  replace ro := Row.below ro h1
  clear h1
  obtain ⟨sa, ca0, ca1, ca2, ca3, fa0, fa1, fa2, fa3⟩ := Row.cells4 ra
  obtain ⟨sb, cb0, cb1, cb2, cb3, fb0, fb1, fb2, fb3⟩ := Row.cells4 rb
  obtain ⟨so, co0, co1, co2, co3, fo0, fo1, fo2, fo3⟩ := Row.cells4 ro
  go_wp2
  have sB := hB.size
  refine post_cut (fun X => Below w.heap.size w X ∧ Row X ba (.cells #[.string (S a.lo.num), .string (S (a.lo.den : Int)), .string (S a.hi.num), .string (S (a.hi.den : Int))] 29) ∧ Row X bb (.cells #[.string (S b.lo.num), .string (S (b.lo.den : Int)), .string (S b.hi.num), .string (S (b.hi.den : Int))] 29) ∧ Row X w.heap.size (.cells #[.string (S x.lo.num), .string (S (x.lo.den : Int)), .string (S x.hi.num), .string (S (x.hi.den : Int))] 29)) ⟨C1_hB, C3_ra, C3_rb, C3_ro⟩ ?_
  clear ra
  clear sa ca0 ca1 ca2 ca3 fa0 fa1 fa2 fa3
  clear rb
  clear sb cb0 cb1 cb2 cb3 fb0 fb1 fb2 fb3
  clear ro
  clear so co0 co1 co2 co3 fo0 fo1 fo2 fo3
  clear hB sB
  rintro V3 ⟨hB, ra, rb, ro⟩
  obtain ⟨sa, ca0, ca1, ca2, ca3, fa0, fa1, fa2, fa3⟩ := Row.cells4 ra
  obtain ⟨sb, cb0, cb1, cb2, cb3, fb0, fb1, fb2, fb3⟩ := Row.cells4 rb
  obtain ⟨so, co0, co1, co2, co3, fo0, fo1, fo2, fo3⟩ := Row.cells4 ro
  refine bodyPost_ret (v := .agg #[.string (S x.lo.num), .string (S (x.lo.den : Int)), .string (S x.hi.num), .string (S (x.hi.den : Int))]) ?res rfl ⟨rfl, hB⟩
  case res => simp [results, Tryz.results102, go_sem, co0, co1, co2, co3]
set_option maxRecDepth 100000 in
set_option maxHeartbeats 4000000 in
theorem ediv1 (ba bb j k : Nat) (a b : Iv) (da : IDig j a) (db : IDig k b) (hjk : j + k ≤ 200) (hob : b.Ok) (hf : b.Free) (w : World) (he : Env w) (ra : IvRow w ba a) (rb : IvRow w bb b) :
    Calls Tryz.prog 104 #[.pointer (some ⟨bb, 0, none⟩), .pointer (some ⟨ba, 0, none⟩)] w fun e w' => e = .returned (I (divI a b)) ∧ Below w.heap.size w w' := by
  have d200 := db.mono (show k ≤ 200 by omega)
  have MZ := fun W => ezero W
  have MC := fun W (h : Env W) => econtains b 0 d200 ⟨dig_small (by decide) (by decide), dig_small (by decide) (by decide)⟩ W h
  have n1 := hf.lo_ne hob
  have n2 := hf.hi_ne hob
  have eg : ∀ args w, (callFunc 19 args).run Tryz.prog w = .ok (.enter 19 args) w := enters_of Tryz.func19 (by kernel_rfl) rfl
  have M := fun W (h : Env W) => eends 19 eg a b _ _ _ _ ((da.1.div db.1 n1).mono hjk) ((da.1.div db.2 n2).mono hjk) ((da.2.div db.1 n1).mono hjk) ((da.2.div db.2 n2).mono hjk) W h (fun W2 h2 => qdiv da.1 db.1 hjk n1 W2 h2) (fun W2 h2 => qdiv da.1 db.2 hjk n2 W2 h2) (fun W2 h2 => qdiv da.2 db.1 hjk n1 W2 h2) (fun W2 h2 => qdiv da.2 db.2 hjk n2 W2 h2)
  change ∀ W, Env W → Calls _ _ _ W (fun e w' => e = .returned (I (divI a b)) ∧ Below W.heap.size W w') at M
  generalize divI a b = x at *
  have nh : ¬ (b.lo ≤ 0 ∧ 0 ≤ b.hi) := fun h => Iv.free_iff.1 hf h
  rw [decide_eq_false nh] at MC
  have MT := fun W => echeck_true W
  clear n1 n2 nh hf hob eg da
  clear d200 db hjk
  unfold BoolOk at MC
  unfold UnitOk at MT
  unfold I IvRow at *
  have qa := ra.1
  have qb := rb.1
  have hB : Below w.heap.size w w := Below.refl _ _
  have KK : ∀ X, Row X bb (.cells #[.string (S b.lo.num), .string (S (b.lo.den : Int)), .string (S b.hi.num), .string (S (b.hi.den : Int))] 29) → (X.cell? ⟨bb, 0, none⟩ = some (.string (S b.lo.num)) ∧ X.cell? ⟨bb, 1, none⟩ = some (.string (S (b.lo.den : Int))) ∧ X.cell? ⟨bb, 2, none⟩ = some (.string (S b.hi.num)) ∧ X.cell? ⟨bb, 3, none⟩ = some (.string (S (b.hi.den : Int)))) := fun X h => IvRow.facts h
  unfold Q at MZ MC
  generalize S b.lo.num = blon at *
  generalize S (b.lo.den : Int) = blod at *
  generalize S b.hi.num = bhin at *
  generalize S (b.hi.den : Int) = bhid at *
  generalize S (0 : Rat).num = zn at *
  generalize S ((0 : Rat).den : Int) = zd at *
  go_enter Tryz.func104, Tryz.ntmps104
  go_wp2_with fail
  refine wp_cut (fun X => Below w.heap.size w X ∧ Row X ba (.cells #[.string (S a.lo.num), .string (S (a.lo.den : Int)), .string (S a.hi.num), .string (S (a.hi.den : Int))] 29) ∧ Row X bb (.cells #[.string blon, .string blod, .string bhin, .string bhid] 29) ∧ Row X w.heap.size (.cells #[.string ⟨#[]⟩, .string ⟨#[]⟩, .string ⟨#[]⟩, .string ⟨#[]⟩] 29)) ⟨C1_hB, ra.alloc _, rb.alloc _, C2⟩ ?_
  clear hB rb ra
  rintro V ⟨hB, ra, rb, ro⟩
  go_region_held3 (fun X => X.cell? ⟨bb, 0, none⟩ = some (.string blon) ∧ X.cell? ⟨bb, 1, none⟩ = some (.string blod) ∧ X.cell? ⟨bb, 2, none⟩ = some (.string bhin) ∧ X.cell? ⟨bb, 3, none⟩ = some (.string bhid)) (first | exact KK _ C3_rb) (first
      | (go_at_call 106; with_reducible refine (MZ _).mono ?_; rintro e W ⟨rfl, h1⟩; (try replace h1 := below_of_drew h1); replace hB := hB.trans (h1.mono hB.size); replace ra := Row.below ra h1; replace rb := Row.below rb h1; replace ro := Row.below ro h1)
      | (go_at_call 23; with_reducible refine (MC _ (by first | exact he.below hB | exact he.below hB.drew | exact he.below (below_drewN hB _))).mono ?_; rintro e W ⟨rfl, h1⟩; (try replace h1 := below_of_drew h1); replace hB := hB.trans (h1.mono hB.size); replace ra := Row.below ra h1; replace rb := Row.below rb h1; replace ro := Row.below ro h1)
      | (go_at_call 105; with_reducible refine (MT _).mono ?_; rintro e W ⟨rfl, h1⟩; (try replace h1 := below_of_drew h1); replace hB := hB.trans (h1.mono hB.size); replace ra := Row.below ra h1; replace rb := Row.below rb h1; replace ro := Row.below ro h1))
  obtain ⟨sa, ca0, ca1, ca2, ca3, fa0, fa1, fa2, fa3⟩ := Row.cells4 ra
  obtain ⟨sb, cb0, cb1, cb2, cb3, fb0, fb1, fb2, fb3⟩ := Row.cells4 rb
  obtain ⟨so, co0, co1, co2, co3, fo0, fo1, fo2, fo3⟩ := Row.cells4 ro
  go_wp2_with fail
  refine (M _ (he.below hB)).mono ?_
  rintro e W1 ⟨rfl, h1⟩
  clear sa ca0 ca1 ca2 ca3 fa0 fa1 fa2 fa3
  clear sb cb0 cb1 cb2 cb3 fb0 fb1 fb2 fb3
  clear so co0 co1 co2 co3 fo0 fo1 fo2 fo3
  replace hB := hB.trans (h1.mono hB.size)
  replace ra := Row.below ra h1
  replace rb := Row.below rb h1
  replace ro := Row.below ro h1
  clear h1
  obtain ⟨sa, ca0, ca1, ca2, ca3, fa0, fa1, fa2, fa3⟩ := Row.cells4 ra
  obtain ⟨sb, cb0, cb1, cb2, cb3, fb0, fb1, fb2, fb3⟩ := Row.cells4 rb
  obtain ⟨so, co0, co1, co2, co3, fo0, fo1, fo2, fo3⟩ := Row.cells4 ro
  go_wp2
  have sB := hB.size
  refine post_cut (fun X => Below w.heap.size w X ∧ Row X ba (.cells #[.string (S a.lo.num), .string (S (a.lo.den : Int)), .string (S a.hi.num), .string (S (a.hi.den : Int))] 29) ∧ Row X bb (.cells #[.string blon, .string blod, .string bhin, .string bhid] 29) ∧ Row X w.heap.size (.cells #[.string (S x.lo.num), .string (S (x.lo.den : Int)), .string (S x.hi.num), .string (S (x.hi.den : Int))] 29)) ⟨C1_hB, C3_ra, C3_rb, C3_ro⟩ ?_
  clear ra
  clear sa ca0 ca1 ca2 ca3 fa0 fa1 fa2 fa3
  clear rb
  clear sb cb0 cb1 cb2 cb3 fb0 fb1 fb2 fb3
  clear ro
  clear so co0 co1 co2 co3 fo0 fo1 fo2 fo3
  clear hB sB
  rintro V2 ⟨hB, ra, rb, ro⟩
  obtain ⟨sa, ca0, ca1, ca2, ca3, fa0, fa1, fa2, fa3⟩ := Row.cells4 ra
  obtain ⟨sb, cb0, cb1, cb2, cb3, fb0, fb1, fb2, fb3⟩ := Row.cells4 rb
  obtain ⟨so, co0, co1, co2, co3, fo0, fo1, fo2, fo3⟩ := Row.cells4 ro
  refine bodyPost_ret (v := .agg #[.string (S x.lo.num), .string (S (x.lo.den : Int)), .string (S x.hi.num), .string (S (x.hi.den : Int))]) ?res rfl ⟨rfl, hB⟩
  case res => simp [results, Tryz.results104, go_sem, co0, co1, co2, co3]
set_option maxRecDepth 100000 in
set_option maxHeartbeats 4000000 in
theorem ediv1_err (a0 : Addr) (bb k : Nat) (pa : Value) (b : Iv) (db : IDig k b) (hk : k ≤ 200) (hf : b.Has 0) (w : World) (he : EnvE a0 w) (rb : IvRow w bb b) :
    Calls Tryz.prog 104 #[.pointer (some ⟨bb, 0, none⟩), pa] w (FailsOk a0 w) := by
  have d200 := db.mono (show k ≤ 200 by omega)
  have MZ := fun W => ezero W
  have MC := fun W (h : Env W) => econtains b 0 d200 ⟨dig_small (by decide) (by decide), dig_small (by decide) (by decide)⟩ W h
  have nh : b.lo ≤ 0 ∧ 0 ≤ b.hi := hf
  rw [decide_eq_true nh] at MC
  have MT := fun W (h : EnvE a0 W) => echeck_false W h
  clear nh hf
  clear d200 db hk
  unfold BoolOk at MC
  unfold FailsOk at MT
  unfold I IvRow at *
  skip
  have qb := rb.1
  have hB : Below w.heap.size w w := Below.refl _ _
  have KK : ∀ X, Row X bb (.cells #[.string (S b.lo.num), .string (S (b.lo.den : Int)), .string (S b.hi.num), .string (S (b.hi.den : Int))] 29) → (X.cell? ⟨bb, 0, none⟩ = some (.string (S b.lo.num)) ∧ X.cell? ⟨bb, 1, none⟩ = some (.string (S (b.lo.den : Int))) ∧ X.cell? ⟨bb, 2, none⟩ = some (.string (S b.hi.num)) ∧ X.cell? ⟨bb, 3, none⟩ = some (.string (S (b.hi.den : Int)))) := fun X h => IvRow.facts h
  unfold Q at MZ MC
  generalize S b.lo.num = blon at *
  generalize S (b.lo.den : Int) = blod at *
  generalize S b.hi.num = bhin at *
  generalize S (b.hi.den : Int) = bhid at *
  generalize S (0 : Rat).num = zn at *
  generalize S ((0 : Rat).den : Int) = zd at *
  go_enter Tryz.func104, Tryz.ntmps104
  go_wp2_with fail
  refine wp_cut (fun X => Below w.heap.size w X ∧ Row X bb (.cells #[.string blon, .string blod, .string bhin, .string bhid] 29) ∧ Row X w.heap.size (.cells #[.string ⟨#[]⟩, .string ⟨#[]⟩, .string ⟨#[]⟩, .string ⟨#[]⟩] 29)) ⟨C1_hB, rb.alloc _, C2⟩ ?_
  clear hB rb 
  rintro V ⟨hB, rb, ro⟩
  refine wp_region_held_drew (S := fun X => X.cell? ⟨bb, 0, none⟩ = some (.string blon) ∧ X.cell? ⟨bb, 1, none⟩ = some (.string blod) ∧ X.cell? ⟨bb, 2, none⟩ = some (.string bhin) ∧ X.cell? ⟨bb, 3, none⟩ = some (.string bhid)) (by kernel_rfl) (KK _ rb) (fun hHeld => ?_)
  refine wpAnyH_take (i := 0) (v := ?v0) rfl (by kernel_rfl) (by kernel_rfl) (by kernel_rfl) (fun _ _ _ h => h) (Or.inl ⟨by rfl, ?hy0⟩) hHeld ?more0
  case hy0 => (intro X hX; obtain ⟨x1, x2, x3, x4⟩ := hX; go_simp; try with_reducible rfl)
  try simp only [Act.put, List.setIfInBounds_toArray, List.set_cons_zero, List.set_cons_succ]
  refine wpAnyH_ready (rs := [1]) (by kernel_rfl) (by simp) (AllReadyH.cons rfl (fun K hK => ?_) AllReadyH.nil)
  go_simp
  refine Calls.mono (MZ _) ?_
  rintro e1 W1 ⟨rfl, h1⟩
  try replace h1 := below_of_drew h1
  replace hB := hB.trans (h1.mono hB.size)
  replace rb := Row.below rb h1
  refine hK.out _ _ (KK _ rb) (fun _ => ?_)
  clear hK K
  try simp only [Act.put, List.setIfInBounds_toArray, List.set_cons_zero, List.set_cons_succ]
  refine wpAnyH_ready (rs := [2]) (by kernel_rfl) (by simp) (AllReadyH.cons rfl (fun K hK => ?_) AllReadyH.nil)
  go_simp
  refine Calls.mono (MC _ (he.env.below hB)) ?_
  rintro e1 W2 ⟨rfl, h1⟩
  try replace h1 := below_of_drew h1
  replace hB := hB.trans (h1.mono hB.size)
  replace rb := Row.below rb h1
  refine hK.out _ _ (KK _ rb) (fun _ => ?_)
  clear hK K
  try simp only [Act.put, List.setIfInBounds_toArray, List.set_cons_zero, List.set_cons_succ]
  refine wpAnyH_ready (rs := [3]) (by kernel_rfl) (by simp) (AllReadyH.cons rfl (fun K hK => ?_) AllReadyH.nil)
  go_simp
  refine hK.out _ _ (KK _ rb) (fun _ => ?_)
  clear hK K
  try simp only [Act.put, List.setIfInBounds_toArray, List.set_cons_zero, List.set_cons_succ]
  refine wpAnyH_ready (rs := [4]) (by kernel_rfl) (by simp) (AllReadyH.cons rfl (fun K hK => ?_) AllReadyH.nil)
  go_simp
  refine Calls.mono (MT _ (he.below hB)) ?_
  rintro e1 W3 ⟨rfl, h1⟩
  try replace h1 := below_of_drew h1
  replace hB := hB.trans (h1.mono hB.size)
  replace rb := Row.below rb h1
  exact ⟨rfl, rfl, hB⟩
set_option maxRecDepth 100000 in
set_option maxHeartbeats 4000000 in
theorem ehull1 (ba bb : Nat) (a b : Iv) (da : IDig 200 a) (db : IDig 200 b) (w : World) (he : Env w) (ra : IvRow w ba a) (rb : IvRow w bb b) :
    Calls Tryz.prog 141 #[.pointer (some ⟨ba, 0, none⟩), .pointer (some ⟨bb, 0, none⟩)] w fun e w' => e = .returned (I (hullI a b)) ∧ Below w.heap.size w w' := by
  have M := fun s W (h : Env W) r => ehull4 s a.lo a.hi b.lo b.hi da.1 da.2 db.1 db.2 W h r
  change ∀ s W, Env W → _ → Calls _ _ _ W (fun e w' => e = .returned (I (hullI a b)) ∧ Below W.heap.size W w') at M
  generalize hullI a b = x at *
  unfold I at *
  clear da db
  unfold IvRow at *
  have qa := ra.1
  have qb := rb.1
  have hB : Below w.heap.size w w := Below.refl _ _
  obtain ⟨sa, ca0, ca1, ca2, ca3, fa0, fa1, fa2, fa3⟩ := Row.cells4 ra
  obtain ⟨sb, cb0, cb1, cb2, cb3, fb0, fb1, fb2, fb3⟩ := Row.cells4 rb
  go_enter Tryz.func141, Tryz.ntmps141
  go_wp2_with fail
  have sB := hB.size
  refine world_cut (fun X => Below w.heap.size w X ∧ Row X ba (.cells #[.string (S a.lo.num), .string (S (a.lo.den : Int)), .string (S a.hi.num), .string (S (a.hi.den : Int))] 29) ∧ Row X bb (.cells #[.string (S b.lo.num), .string (S (b.lo.den : Int)), .string (S b.hi.num), .string (S (b.hi.den : Int))] 29) ∧ Row X w.heap.size (.cells #[.string ⟨#[]⟩, .string ⟨#[]⟩, .string ⟨#[]⟩, .string ⟨#[]⟩] 29) ∧ Row X (w.heap.size + 1) (.cells #[.string (S a.lo.num), .string (S (a.lo.den : Int)), .string (S a.hi.num), .string (S (a.hi.den : Int)), .string (S b.lo.num), .string (S (b.lo.den : Int)), .string (S b.hi.num), .string (S (b.hi.den : Int))] 26)) ⟨C1_hB, C3_ra, C3_rb, C2, C2⟩ ?_
  clear ra
  clear sa ca0 ca1 ca2 ca3 fa0 fa1 fa2 fa3
  clear rb
  clear sb cb0 cb1 cb2 cb3 fb0 fb1 fb2 fb3
  clear hB sB
  rintro V1 ⟨hB, ra, rb, ro, rs⟩
  obtain ⟨sa, ca0, ca1, ca2, ca3, fa0, fa1, fa2, fa3⟩ := Row.cells4 ra
  obtain ⟨sb, cb0, cb1, cb2, cb3, fb0, fb1, fb2, fb3⟩ := Row.cells4 rb
  obtain ⟨so, co0, co1, co2, co3, fo0, fo1, fo2, fo3⟩ := Row.cells4 ro
  obtain ⟨ss, cs0, cs1, cs2, cs3, cs4, cs5, cs6, cs7⟩ := Row.cells8 rs
  refine (M _ _ (he.below hB) rs).mono ?_
  rintro e W2 ⟨rfl, h1⟩
  clear sa ca0 ca1 ca2 ca3 fa0 fa1 fa2 fa3
  clear sb cb0 cb1 cb2 cb3 fb0 fb1 fb2 fb3
  clear so co0 co1 co2 co3 fo0 fo1 fo2 fo3
  clear ss cs0 cs1 cs2 cs3 cs4 cs5 cs6 cs7
  replace hB := hB.trans (h1.mono hB.size)
  replace ra := Row.below ra h1
  replace rb := Row.below rb h1
  replace ro := Row.below ro h1
  replace rs := Row.below rs h1
  clear h1
  obtain ⟨sa, ca0, ca1, ca2, ca3, fa0, fa1, fa2, fa3⟩ := Row.cells4 ra
  obtain ⟨sb, cb0, cb1, cb2, cb3, fb0, fb1, fb2, fb3⟩ := Row.cells4 rb
  obtain ⟨so, co0, co1, co2, co3, fo0, fo1, fo2, fo3⟩ := Row.cells4 ro
  obtain ⟨ss, cs0, cs1, cs2, cs3, cs4, cs5, cs6, cs7⟩ := Row.cells8 rs
  go_wp2
  have sB := hB.size
  refine post_cut (fun X => Below w.heap.size w X ∧ Row X ba (.cells #[.string (S a.lo.num), .string (S (a.lo.den : Int)), .string (S a.hi.num), .string (S (a.hi.den : Int))] 29) ∧ Row X bb (.cells #[.string (S b.lo.num), .string (S (b.lo.den : Int)), .string (S b.hi.num), .string (S (b.hi.den : Int))] 29) ∧ Row X w.heap.size (.cells #[.string (S x.lo.num), .string (S (x.lo.den : Int)), .string (S x.hi.num), .string (S (x.hi.den : Int))] 29) ∧ Row X (w.heap.size + 1) (.cells #[.string (S a.lo.num), .string (S (a.lo.den : Int)), .string (S a.hi.num), .string (S (a.hi.den : Int)), .string (S b.lo.num), .string (S (b.lo.den : Int)), .string (S b.hi.num), .string (S (b.hi.den : Int))] 26)) ⟨C1_hB, C3_ra, C3_rb, C3_ro, C3_rs⟩ ?_
  clear ra
  clear sa ca0 ca1 ca2 ca3 fa0 fa1 fa2 fa3
  clear rb
  clear sb cb0 cb1 cb2 cb3 fb0 fb1 fb2 fb3
  clear ro
  clear so co0 co1 co2 co3 fo0 fo1 fo2 fo3
  clear rs
  clear ss cs0 cs1 cs2 cs3 cs4 cs5 cs6 cs7
  clear hB sB
  rintro V3 ⟨hB, ra, rb, ro, rs⟩
  obtain ⟨sa, ca0, ca1, ca2, ca3, fa0, fa1, fa2, fa3⟩ := Row.cells4 ra
  obtain ⟨sb, cb0, cb1, cb2, cb3, fb0, fb1, fb2, fb3⟩ := Row.cells4 rb
  obtain ⟨so, co0, co1, co2, co3, fo0, fo1, fo2, fo3⟩ := Row.cells4 ro
  obtain ⟨ss, cs0, cs1, cs2, cs3, cs4, cs5, cs6, cs7⟩ := Row.cells8 rs
  refine bodyPost_ret (v := .agg #[.string (S x.lo.num), .string (S (x.lo.den : Int)), .string (S x.hi.num), .string (S (x.hi.den : Int))]) ?res rfl ⟨rfl, hB⟩
  case res => simp [results, Tryz.results141, go_sem, co0, co1, co2, co3]
set_option maxRecDepth 100000 in
set_option maxHeartbeats 4000000 in
theorem ewidth1 (ba j : Nat) (a : Iv) (da : IDig j a) (hjk : j + j + 1 ≤ 200) (w : World) (he : Env w) (ra : IvRow w ba a) :
    Calls Tryz.prog 101 #[.pointer (some ⟨ba, 0, none⟩)] w fun e w' => e = .returned (Q (a.hi - a.lo)) ∧ Below w.heap.size w w' := by
  have M1 := fun W (h : Env W) => qsub da.2 da.1 hjk W h
  have M2 := fun W => emust (a.hi - a.lo) W
  unfold QOk at M1
  unfold QIs at M2
  generalize a.hi - a.lo = x at *
  clear da hjk
  unfold IvRow at *
  unfold Q at *
  have qa := ra.1
  have hB : Below w.heap.size w w := Below.refl _ _
  obtain ⟨sa, ca0, ca1, ca2, ca3, fa0, fa1, fa2, fa3⟩ := Row.cells4 ra
  go_enter Tryz.func101, Tryz.ntmps101
  go_wp2_with fail
  have sB := hB.size
  refine world_cut (fun X => Below w.heap.size w X ∧ Row X ba (.cells #[.string (S a.lo.num), .string (S (a.lo.den : Int)), .string (S a.hi.num), .string (S (a.hi.den : Int))] 29) ∧ Row X w.heap.size (.cells #[.string ⟨#[]⟩, .string ⟨#[]⟩] 26)) ⟨C1_hB, C3_ra, C2⟩ ?_
  clear ra
  clear sa ca0 ca1 ca2 ca3 fa0 fa1 fa2 fa3
  clear hB sB
  rintro V1 ⟨hB, ra, ro⟩
  obtain ⟨sa, ca0, ca1, ca2, ca3, fa0, fa1, fa2, fa3⟩ := Row.cells4 ra
  obtain ⟨so, co0, co1, fo0, fo1⟩ := Row.cells2 ro
  refine (M1 _ (he.below hB)).mono ?_
  rintro e W2 ⟨rfl, h1⟩
  clear sa ca0 ca1 ca2 ca3 fa0 fa1 fa2 fa3
  clear so co0 co1 fo0 fo1
  replace hB := hB.trans (h1.mono hB.size)
  replace ra := Row.below ra h1
  replace ro := Row.below ro h1
  clear h1
  obtain ⟨sa, ca0, ca1, ca2, ca3, fa0, fa1, fa2, fa3⟩ := Row.cells4 ra
  obtain ⟨so, co0, co1, fo0, fo1⟩ := Row.cells2 ro
  go_wp2_with fail
  refine (M2 _).mono ?_
  rintro e W3 ⟨rfl, h1⟩
  clear sa ca0 ca1 ca2 ca3 fa0 fa1 fa2 fa3
  clear so co0 co1 fo0 fo1
  replace hB := hB.trans (h1.mono hB.size)
  replace ra := Row.below ra h1
  replace ro := Row.below ro h1
  clear h1
  obtain ⟨sa, ca0, ca1, ca2, ca3, fa0, fa1, fa2, fa3⟩ := Row.cells4 ra
  obtain ⟨so, co0, co1, fo0, fo1⟩ := Row.cells2 ro
  go_wp2
  have sB := hB.size
  refine post_cut (fun X => Below w.heap.size w X ∧ Row X ba (.cells #[.string (S a.lo.num), .string (S (a.lo.den : Int)), .string (S a.hi.num), .string (S (a.hi.den : Int))] 29) ∧ Row X w.heap.size (.cells #[.string (S x.num), .string (S (x.den : Int))] 26)) ⟨C1_hB, C3_ra, C3_ro⟩ ?_
  clear ra
  clear sa ca0 ca1 ca2 ca3 fa0 fa1 fa2 fa3
  clear ro
  clear so co0 co1 fo0 fo1
  clear hB sB
  rintro V4 ⟨hB, ra, ro⟩
  obtain ⟨sa, ca0, ca1, ca2, ca3, fa0, fa1, fa2, fa3⟩ := Row.cells4 ra
  obtain ⟨so, co0, co1, fo0, fo1⟩ := Row.cells2 ro
  refine bodyPost_ret (v := .agg #[.string (S x.num), .string (S (x.den : Int))]) ?res rfl ⟨rfl, hB⟩
  case res => simp [results, Tryz.results101, go_sem, co0, co1]
set_option maxRecDepth 100000 in
set_option maxHeartbeats 4000000 in
theorem eadd {j k : Nat} {a b : Iv} (da : IDig j a) (db : IDig k b) (oa : a.Ok) (ob : b.Ok) (hjk : j + k + 1 ≤ 200) (w : World) (he : Env w) :
    Calls Tryz.prog 75 #[I a, I b] w (ivOk (fun v => v = addI a b) w) := by
  have egG : ∀ args w, (callFunc 138 args).run Tryz.prog w = .ok (.enter 138 args) w := enters_of Tryz.func138 (by kernel_rfl) rfl
  have egC : ∀ args w, (callFunc 131 args).run Tryz.prog w = .ok (.enter 131 args) w := enters_of Tryz.func131 (by kernel_rfl) rfl
  have hB : Below w.heap.size w w := Below.refl _ _
  show Calls Tryz.prog 75 #[.agg #[.string (S a.lo.num), .string (S (a.lo.den : Int)), .string (S a.hi.num), .string (S (a.hi.den : Int))], .agg #[.string (S b.lo.num), .string (S (b.lo.den : Int)), .string (S b.hi.num), .string (S (b.hi.den : Int))]] w _
  go_enter Tryz.func75, Tryz.ntmps75
  have hmf : ∀ (fn : Fn) (first cap : Array Value) (w : World), (Instr.makeFunc fn first cap).run Tryz.prog w = .ok (.func fn first cap) w := fun _ _ _ _ => rfl
  go_wp2_with fail
  have sB := hB.size
  refine world_cut (fun X => Below w.heap.size w X ∧ Row X w.heap.size (.cells #[.string (S a.lo.num), .string (S (a.lo.den : Int)), .string (S a.hi.num), .string (S (a.hi.den : Int))] 29) ∧ Row X (w.heap.size + 1) (.cells #[.string (S b.lo.num), .string (S (b.lo.den : Int)), .string (S b.hi.num), .string (S (b.hi.den : Int))] 29) ∧ Row X (w.heap.size + 1 + 1) (.cells #[.string ⟨#[]⟩, .string ⟨#[]⟩, .string ⟨#[]⟩, .string ⟨#[]⟩] 29) ∧ Row X (w.heap.size + 1 + 1 + 1) (.cells #[.func (.func 24) #[] #[]] 123) ∧ Row X (w.heap.size + 1 + 1 + 1 + 1) (.cells #[.string (S a.lo.num), .string (S (a.lo.den : Int)), .string (S a.hi.num), .string (S (a.hi.den : Int)), .string (S b.lo.num), .string (S (b.lo.den : Int)), .string (S b.hi.num), .string (S (b.hi.den : Int))] 29)) ⟨C1_hB, C2, C2, C2, C2, C2⟩ ?_
  clear hB sB
  rintro V1 ⟨hB, ra, rb, ro, rf, rs⟩
  obtain ⟨sa, ca0, ca1, ca2, ca3, fa0, fa1, fa2, fa3⟩ := Row.cells4 ra
  obtain ⟨sb, cb0, cb1, cb2, cb3, fb0, fb1, fb2, fb3⟩ := Row.cells4 rb
  obtain ⟨so, co0, co1, co2, co3, fo0, fo1, fo2, fo3⟩ := Row.cells4 ro
  obtain ⟨sf, cf0, ff0⟩ := Row.cells1 rf
  obtain ⟨ss, cs0, cs1, cs2, cs3, cs4, cs5, cs6, cs7⟩ := Row.cells8 rs
  refine (ivcompute_ok 138 _ _ 2 (fun v => v = addI a b) _ egG (fun W h => contains2 131 egC _ a b W (Row.below rs h) (fun W2 h2 => ivbad a (da.mono (by omega)) oa W2 ((he.below (hB.trans (h.mono hB.size))).below h2)) (fun W2 h2 => ivbad b (db.mono (by omega)) ob W2 ((he.below (hB.trans (h.mono hB.size))).below h2))) (fun W h => (eadd1 _ _ _ j k a b da db hjk W (he.below (hB.trans (h.mono hB.size))) (Row.below rf h) (Row.below ra h) (Row.below rb h)).mono fun e w' hh => ⟨_, rfl, hh.1, hh.2⟩)).mono ?_
  rintro e W1 ⟨v, pv, rfl, h1⟩
  have PV := Lib.hid pv
  clear pv
  clear sa ca0 ca1 ca2 ca3 fa0 fa1 fa2 fa3
  clear sb cb0 cb1 cb2 cb3 fb0 fb1 fb2 fb3
  clear so co0 co1 co2 co3 fo0 fo1 fo2 fo3
  clear sf cf0 ff0
  clear ss cs0 cs1 cs2 cs3 cs4 cs5 cs6 cs7
  replace hB := hB.trans (h1.mono hB.size)
  replace ra := Row.below ra h1
  replace rb := Row.below rb h1
  replace ro := Row.below ro h1
  replace rf := Row.below rf h1
  replace rs := Row.below rs h1
  clear h1
  obtain ⟨sa, ca0, ca1, ca2, ca3, fa0, fa1, fa2, fa3⟩ := Row.cells4 ra
  obtain ⟨sb, cb0, cb1, cb2, cb3, fb0, fb1, fb2, fb3⟩ := Row.cells4 rb
  obtain ⟨so, co0, co1, co2, co3, fo0, fo1, fo2, fo3⟩ := Row.cells4 ro
  obtain ⟨sf, cf0, ff0⟩ := Row.cells1 rf
  obtain ⟨ss, cs0, cs1, cs2, cs3, cs4, cs5, cs6, cs7⟩ := Row.cells8 rs
  clear hmf egG egC
  unfold I
  go_wp2
  have sB := hB.size
  refine post_cut (fun X => Below w.heap.size w X ∧ Row X w.heap.size (.cells #[.string (S a.lo.num), .string (S (a.lo.den : Int)), .string (S a.hi.num), .string (S (a.hi.den : Int))] 29) ∧ Row X (w.heap.size + 1) (.cells #[.string (S b.lo.num), .string (S (b.lo.den : Int)), .string (S b.hi.num), .string (S (b.hi.den : Int))] 29) ∧ Row X (w.heap.size + 1 + 1) (.cells #[.string (S v.lo.num), .string (S (v.lo.den : Int)), .string (S v.hi.num), .string (S (v.hi.den : Int))] 29) ∧ Row X (w.heap.size + 1 + 1 + 1) (.cells #[.func (.func 24) #[] #[]] 123) ∧ Row X (w.heap.size + 1 + 1 + 1 + 1) (.cells #[.string (S a.lo.num), .string (S (a.lo.den : Int)), .string (S a.hi.num), .string (S (a.hi.den : Int)), .string (S b.lo.num), .string (S (b.lo.den : Int)), .string (S b.hi.num), .string (S (b.hi.den : Int))] 29)) ⟨C1_hB, C3_ra, C3_rb, C3_ro, C3_rf, C3_rs⟩ ?_
  clear ra
  clear sa ca0 ca1 ca2 ca3 fa0 fa1 fa2 fa3
  clear rb
  clear sb cb0 cb1 cb2 cb3 fb0 fb1 fb2 fb3
  clear ro
  clear so co0 co1 co2 co3 fo0 fo1 fo2 fo3
  clear rf
  clear sf cf0 ff0
  clear rs
  clear ss cs0 cs1 cs2 cs3 cs4 cs5 cs6 cs7
  clear hB sB
  rintro V2 ⟨hB, ra, rb, ro, rf, rs⟩
  obtain ⟨sa, ca0, ca1, ca2, ca3, fa0, fa1, fa2, fa3⟩ := Row.cells4 ra
  obtain ⟨sb, cb0, cb1, cb2, cb3, fb0, fb1, fb2, fb3⟩ := Row.cells4 rb
  obtain ⟨so, co0, co1, co2, co3, fo0, fo1, fo2, fo3⟩ := Row.cells4 ro
  obtain ⟨sf, cf0, ff0⟩ := Row.cells1 rf
  obtain ⟨ss, cs0, cs1, cs2, cs3, cs4, cs5, cs6, cs7⟩ := Row.cells8 rs
  refine bodyPost_ret (v := .tuple #[.agg #[.string (S v.lo.num), .string (S (v.lo.den : Int)), .string (S v.hi.num), .string (S (v.hi.den : Int))], .int .i64 0]) ?res rfl ⟨_, PV.out, rfl, hB⟩
  case res => simp [results, Tryz.results75, go_sem, co0, co1, co2, co3]
set_option maxRecDepth 100000 in
set_option maxHeartbeats 4000000 in
theorem esub {j k : Nat} {a b : Iv} (da : IDig j a) (db : IDig k b) (oa : a.Ok) (ob : b.Ok) (hjk : j + k + 1 ≤ 200) (w : World) (he : Env w) :
    Calls Tryz.prog 76 #[I a, I b] w (ivOk (fun v => v = subI a b) w) := by
  have egG : ∀ args w, (callFunc 140 args).run Tryz.prog w = .ok (.enter 140 args) w := enters_of Tryz.func140 (by kernel_rfl) rfl
  have egC : ∀ args w, (callFunc 131 args).run Tryz.prog w = .ok (.enter 131 args) w := enters_of Tryz.func131 (by kernel_rfl) rfl
  have hB : Below w.heap.size w w := Below.refl _ _
  show Calls Tryz.prog 76 #[.agg #[.string (S a.lo.num), .string (S (a.lo.den : Int)), .string (S a.hi.num), .string (S (a.hi.den : Int))], .agg #[.string (S b.lo.num), .string (S (b.lo.den : Int)), .string (S b.hi.num), .string (S (b.hi.den : Int))]] w _
  go_enter Tryz.func76, Tryz.ntmps76
  have hmf : ∀ (fn : Fn) (first cap : Array Value) (w : World), (Instr.makeFunc fn first cap).run Tryz.prog w = .ok (.func fn first cap) w := fun _ _ _ _ => rfl
  go_wp2_with fail
  have sB := hB.size
  refine world_cut (fun X => Below w.heap.size w X ∧ Row X w.heap.size (.cells #[.string (S a.lo.num), .string (S (a.lo.den : Int)), .string (S a.hi.num), .string (S (a.hi.den : Int))] 29) ∧ Row X (w.heap.size + 1) (.cells #[.string (S b.lo.num), .string (S (b.lo.den : Int)), .string (S b.hi.num), .string (S (b.hi.den : Int))] 29) ∧ Row X (w.heap.size + 1 + 1) (.cells #[.string ⟨#[]⟩, .string ⟨#[]⟩, .string ⟨#[]⟩, .string ⟨#[]⟩] 29) ∧ Row X (w.heap.size + 1 + 1 + 1) (.cells #[.func (.func 20) #[] #[]] 123) ∧ Row X (w.heap.size + 1 + 1 + 1 + 1) (.cells #[.string (S a.lo.num), .string (S (a.lo.den : Int)), .string (S a.hi.num), .string (S (a.hi.den : Int)), .string (S b.lo.num), .string (S (b.lo.den : Int)), .string (S b.hi.num), .string (S (b.hi.den : Int))] 29)) ⟨C1_hB, C2, C2, C2, C2, C2⟩ ?_
  clear hB sB
  rintro V1 ⟨hB, ra, rb, ro, rf, rs⟩
  obtain ⟨sa, ca0, ca1, ca2, ca3, fa0, fa1, fa2, fa3⟩ := Row.cells4 ra
  obtain ⟨sb, cb0, cb1, cb2, cb3, fb0, fb1, fb2, fb3⟩ := Row.cells4 rb
  obtain ⟨so, co0, co1, co2, co3, fo0, fo1, fo2, fo3⟩ := Row.cells4 ro
  obtain ⟨sf, cf0, ff0⟩ := Row.cells1 rf
  obtain ⟨ss, cs0, cs1, cs2, cs3, cs4, cs5, cs6, cs7⟩ := Row.cells8 rs
  refine (ivcompute_ok 140 _ _ 2 (fun v => v = subI a b) _ egG (fun W h => contains2 131 egC _ a b W (Row.below rs h) (fun W2 h2 => ivbad a (da.mono (by omega)) oa W2 ((he.below (hB.trans (h.mono hB.size))).below h2)) (fun W2 h2 => ivbad b (db.mono (by omega)) ob W2 ((he.below (hB.trans (h.mono hB.size))).below h2))) (fun W h => (esub1 _ _ _ j k a b da db hjk W (he.below (hB.trans (h.mono hB.size))) (Row.below rf h) (Row.below ra h) (Row.below rb h)).mono fun e w' hh => ⟨_, rfl, hh.1, hh.2⟩)).mono ?_
  rintro e W1 ⟨v, pv, rfl, h1⟩
  have PV := Lib.hid pv
  clear pv
  clear sa ca0 ca1 ca2 ca3 fa0 fa1 fa2 fa3
  clear sb cb0 cb1 cb2 cb3 fb0 fb1 fb2 fb3
  clear so co0 co1 co2 co3 fo0 fo1 fo2 fo3
  clear sf cf0 ff0
  clear ss cs0 cs1 cs2 cs3 cs4 cs5 cs6 cs7
  replace hB := hB.trans (h1.mono hB.size)
  replace ra := Row.below ra h1
  replace rb := Row.below rb h1
  replace ro := Row.below ro h1
  replace rf := Row.below rf h1
  replace rs := Row.below rs h1
  clear h1
  obtain ⟨sa, ca0, ca1, ca2, ca3, fa0, fa1, fa2, fa3⟩ := Row.cells4 ra
  obtain ⟨sb, cb0, cb1, cb2, cb3, fb0, fb1, fb2, fb3⟩ := Row.cells4 rb
  obtain ⟨so, co0, co1, co2, co3, fo0, fo1, fo2, fo3⟩ := Row.cells4 ro
  obtain ⟨sf, cf0, ff0⟩ := Row.cells1 rf
  obtain ⟨ss, cs0, cs1, cs2, cs3, cs4, cs5, cs6, cs7⟩ := Row.cells8 rs
  clear hmf egG egC
  unfold I
  go_wp2
  have sB := hB.size
  refine post_cut (fun X => Below w.heap.size w X ∧ Row X w.heap.size (.cells #[.string (S a.lo.num), .string (S (a.lo.den : Int)), .string (S a.hi.num), .string (S (a.hi.den : Int))] 29) ∧ Row X (w.heap.size + 1) (.cells #[.string (S b.lo.num), .string (S (b.lo.den : Int)), .string (S b.hi.num), .string (S (b.hi.den : Int))] 29) ∧ Row X (w.heap.size + 1 + 1) (.cells #[.string (S v.lo.num), .string (S (v.lo.den : Int)), .string (S v.hi.num), .string (S (v.hi.den : Int))] 29) ∧ Row X (w.heap.size + 1 + 1 + 1) (.cells #[.func (.func 20) #[] #[]] 123) ∧ Row X (w.heap.size + 1 + 1 + 1 + 1) (.cells #[.string (S a.lo.num), .string (S (a.lo.den : Int)), .string (S a.hi.num), .string (S (a.hi.den : Int)), .string (S b.lo.num), .string (S (b.lo.den : Int)), .string (S b.hi.num), .string (S (b.hi.den : Int))] 29)) ⟨C1_hB, C3_ra, C3_rb, C3_ro, C3_rf, C3_rs⟩ ?_
  clear ra
  clear sa ca0 ca1 ca2 ca3 fa0 fa1 fa2 fa3
  clear rb
  clear sb cb0 cb1 cb2 cb3 fb0 fb1 fb2 fb3
  clear ro
  clear so co0 co1 co2 co3 fo0 fo1 fo2 fo3
  clear rf
  clear sf cf0 ff0
  clear rs
  clear ss cs0 cs1 cs2 cs3 cs4 cs5 cs6 cs7
  clear hB sB
  rintro V2 ⟨hB, ra, rb, ro, rf, rs⟩
  obtain ⟨sa, ca0, ca1, ca2, ca3, fa0, fa1, fa2, fa3⟩ := Row.cells4 ra
  obtain ⟨sb, cb0, cb1, cb2, cb3, fb0, fb1, fb2, fb3⟩ := Row.cells4 rb
  obtain ⟨so, co0, co1, co2, co3, fo0, fo1, fo2, fo3⟩ := Row.cells4 ro
  obtain ⟨sf, cf0, ff0⟩ := Row.cells1 rf
  obtain ⟨ss, cs0, cs1, cs2, cs3, cs4, cs5, cs6, cs7⟩ := Row.cells8 rs
  refine bodyPost_ret (v := .tuple #[.agg #[.string (S v.lo.num), .string (S (v.lo.den : Int)), .string (S v.hi.num), .string (S (v.hi.den : Int))], .int .i64 0]) ?res rfl ⟨_, PV.out, rfl, hB⟩
  case res => simp [results, Tryz.results76, go_sem, co0, co1, co2, co3]
set_option maxRecDepth 100000 in
set_option maxHeartbeats 4000000 in
theorem emul {j k : Nat} {a b : Iv} (da : IDig j a) (db : IDig k b) (oa : a.Ok) (ob : b.Ok) (hjk : j + k ≤ 200) (w : World) (he : Env w) :
    Calls Tryz.prog 49 #[I a, I b] w (ivOk (fun v => v = mulI a b) w) := by
  have egG : ∀ args w, (callFunc 102 args).run Tryz.prog w = .ok (.enter 102 args) w := enters_of Tryz.func102 (by kernel_rfl) rfl
  have egC : ∀ args w, (callFunc 131 args).run Tryz.prog w = .ok (.enter 131 args) w := enters_of Tryz.func131 (by kernel_rfl) rfl
  have hB : Below w.heap.size w w := Below.refl _ _
  show Calls Tryz.prog 49 #[.agg #[.string (S a.lo.num), .string (S (a.lo.den : Int)), .string (S a.hi.num), .string (S (a.hi.den : Int))], .agg #[.string (S b.lo.num), .string (S (b.lo.den : Int)), .string (S b.hi.num), .string (S (b.hi.den : Int))]] w _
  go_enter Tryz.func49, Tryz.ntmps49
  have hmf : ∀ (fn : Fn) (first cap : Array Value) (w : World), (Instr.makeFunc fn first cap).run Tryz.prog w = .ok (.func fn first cap) w := fun _ _ _ _ => rfl
  go_wp2_with fail
  have sB := hB.size
  refine world_cut (fun X => Below w.heap.size w X ∧ Row X w.heap.size (.cells #[.string (S a.lo.num), .string (S (a.lo.den : Int)), .string (S a.hi.num), .string (S (a.hi.den : Int))] 29) ∧ Row X (w.heap.size + 1) (.cells #[.string (S b.lo.num), .string (S (b.lo.den : Int)), .string (S b.hi.num), .string (S (b.hi.den : Int))] 29) ∧ Row X (w.heap.size + 1 + 1) (.cells #[.string ⟨#[]⟩, .string ⟨#[]⟩, .string ⟨#[]⟩, .string ⟨#[]⟩] 29) ∧ Row X (w.heap.size + 1 + 1 + 1) (.cells #[.string (S a.lo.num), .string (S (a.lo.den : Int)), .string (S a.hi.num), .string (S (a.hi.den : Int)), .string (S b.lo.num), .string (S (b.lo.den : Int)), .string (S b.hi.num), .string (S (b.hi.den : Int))] 29)) ⟨C1_hB, C2, C2, C2, C2⟩ ?_
  clear hB sB
  rintro V1 ⟨hB, ra, rb, ro, rs⟩
  obtain ⟨sa, ca0, ca1, ca2, ca3, fa0, fa1, fa2, fa3⟩ := Row.cells4 ra
  obtain ⟨sb, cb0, cb1, cb2, cb3, fb0, fb1, fb2, fb3⟩ := Row.cells4 rb
  obtain ⟨so, co0, co1, co2, co3, fo0, fo1, fo2, fo3⟩ := Row.cells4 ro
  obtain ⟨ss, cs0, cs1, cs2, cs3, cs4, cs5, cs6, cs7⟩ := Row.cells8 rs
  refine (ivcompute_ok 102 _ _ 2 (fun v => v = mulI a b) _ egG (fun W h => contains2 131 egC _ a b W (Row.below rs h) (fun W2 h2 => ivbad a (da.mono (by omega)) oa W2 ((he.below (hB.trans (h.mono hB.size))).below h2)) (fun W2 h2 => ivbad b (db.mono (by omega)) ob W2 ((he.below (hB.trans (h.mono hB.size))).below h2))) (fun W h => (emul1 _ _ j k a b da db hjk W (he.below (hB.trans (h.mono hB.size))) (Row.below ra h) (Row.below rb h)).mono fun e w' hh => ⟨_, rfl, hh.1, hh.2⟩)).mono ?_
  rintro e W1 ⟨v, pv, rfl, h1⟩
  have PV := Lib.hid pv
  clear pv
  clear sa ca0 ca1 ca2 ca3 fa0 fa1 fa2 fa3
  clear sb cb0 cb1 cb2 cb3 fb0 fb1 fb2 fb3
  clear so co0 co1 co2 co3 fo0 fo1 fo2 fo3
  clear ss cs0 cs1 cs2 cs3 cs4 cs5 cs6 cs7
  replace hB := hB.trans (h1.mono hB.size)
  replace ra := Row.below ra h1
  replace rb := Row.below rb h1
  replace ro := Row.below ro h1
  replace rs := Row.below rs h1
  clear h1
  obtain ⟨sa, ca0, ca1, ca2, ca3, fa0, fa1, fa2, fa3⟩ := Row.cells4 ra
  obtain ⟨sb, cb0, cb1, cb2, cb3, fb0, fb1, fb2, fb3⟩ := Row.cells4 rb
  obtain ⟨so, co0, co1, co2, co3, fo0, fo1, fo2, fo3⟩ := Row.cells4 ro
  obtain ⟨ss, cs0, cs1, cs2, cs3, cs4, cs5, cs6, cs7⟩ := Row.cells8 rs
  clear hmf egG egC
  unfold I
  go_wp2
  have sB := hB.size
  refine post_cut (fun X => Below w.heap.size w X ∧ Row X w.heap.size (.cells #[.string (S a.lo.num), .string (S (a.lo.den : Int)), .string (S a.hi.num), .string (S (a.hi.den : Int))] 29) ∧ Row X (w.heap.size + 1) (.cells #[.string (S b.lo.num), .string (S (b.lo.den : Int)), .string (S b.hi.num), .string (S (b.hi.den : Int))] 29) ∧ Row X (w.heap.size + 1 + 1) (.cells #[.string (S v.lo.num), .string (S (v.lo.den : Int)), .string (S v.hi.num), .string (S (v.hi.den : Int))] 29) ∧ Row X (w.heap.size + 1 + 1 + 1) (.cells #[.string (S a.lo.num), .string (S (a.lo.den : Int)), .string (S a.hi.num), .string (S (a.hi.den : Int)), .string (S b.lo.num), .string (S (b.lo.den : Int)), .string (S b.hi.num), .string (S (b.hi.den : Int))] 29)) ⟨C1_hB, C3_ra, C3_rb, C3_ro, C3_rs⟩ ?_
  clear ra
  clear sa ca0 ca1 ca2 ca3 fa0 fa1 fa2 fa3
  clear rb
  clear sb cb0 cb1 cb2 cb3 fb0 fb1 fb2 fb3
  clear ro
  clear so co0 co1 co2 co3 fo0 fo1 fo2 fo3
  clear rs
  clear ss cs0 cs1 cs2 cs3 cs4 cs5 cs6 cs7
  clear hB sB
  rintro V2 ⟨hB, ra, rb, ro, rs⟩
  obtain ⟨sa, ca0, ca1, ca2, ca3, fa0, fa1, fa2, fa3⟩ := Row.cells4 ra
  obtain ⟨sb, cb0, cb1, cb2, cb3, fb0, fb1, fb2, fb3⟩ := Row.cells4 rb
  obtain ⟨so, co0, co1, co2, co3, fo0, fo1, fo2, fo3⟩ := Row.cells4 ro
  obtain ⟨ss, cs0, cs1, cs2, cs3, cs4, cs5, cs6, cs7⟩ := Row.cells8 rs
  refine bodyPost_ret (v := .tuple #[.agg #[.string (S v.lo.num), .string (S (v.lo.den : Int)), .string (S v.hi.num), .string (S (v.hi.den : Int))], .int .i64 0]) ?res rfl ⟨_, PV.out, rfl, hB⟩
  case res => simp [results, Tryz.results49, go_sem, co0, co1, co2, co3]
set_option maxRecDepth 100000 in
set_option maxHeartbeats 4000000 in
theorem ediv {j k : Nat} {a b : Iv} (da : IDig j a) (db : IDig k b) (oa : a.Ok) (ob : b.Ok) (hf : b.Free) (hjk : j + k ≤ 200) (w : World) (he : Env w) :
    Calls Tryz.prog 51 #[I a, I b] w (ivOk (fun v => v = divI a b) w) := by
  have egG : ∀ args w, (callFunc 104 args).run Tryz.prog w = .ok (.enter 104 args) w := enters_of Tryz.func104 (by kernel_rfl) rfl
  have egC : ∀ args w, (callFunc 131 args).run Tryz.prog w = .ok (.enter 131 args) w := enters_of Tryz.func131 (by kernel_rfl) rfl
  have hB : Below w.heap.size w w := Below.refl _ _
  show Calls Tryz.prog 51 #[.agg #[.string (S a.lo.num), .string (S (a.lo.den : Int)), .string (S a.hi.num), .string (S (a.hi.den : Int))], .agg #[.string (S b.lo.num), .string (S (b.lo.den : Int)), .string (S b.hi.num), .string (S (b.hi.den : Int))]] w _
  go_enter Tryz.func51, Tryz.ntmps51
  have hmf : ∀ (fn : Fn) (first cap : Array Value) (w : World), (Instr.makeFunc fn first cap).run Tryz.prog w = .ok (.func fn first cap) w := fun _ _ _ _ => rfl
  go_wp2_with fail
  have sB := hB.size
  refine world_cut (fun X => Below w.heap.size w X ∧ Row X w.heap.size (.cells #[.string (S a.lo.num), .string (S (a.lo.den : Int)), .string (S a.hi.num), .string (S (a.hi.den : Int))] 29) ∧ Row X (w.heap.size + 1) (.cells #[.string (S b.lo.num), .string (S (b.lo.den : Int)), .string (S b.hi.num), .string (S (b.hi.den : Int))] 29) ∧ Row X (w.heap.size + 1 + 1) (.cells #[.string ⟨#[]⟩, .string ⟨#[]⟩, .string ⟨#[]⟩, .string ⟨#[]⟩] 29) ∧ Row X (w.heap.size + 1 + 1 + 1) (.cells #[.string (S a.lo.num), .string (S (a.lo.den : Int)), .string (S a.hi.num), .string (S (a.hi.den : Int)), .string (S b.lo.num), .string (S (b.lo.den : Int)), .string (S b.hi.num), .string (S (b.hi.den : Int))] 29)) ⟨C1_hB, C2, C2, C2, C2⟩ ?_
  clear hB sB
  rintro V1 ⟨hB, ra, rb, ro, rs⟩
  obtain ⟨sa, ca0, ca1, ca2, ca3, fa0, fa1, fa2, fa3⟩ := Row.cells4 ra
  obtain ⟨sb, cb0, cb1, cb2, cb3, fb0, fb1, fb2, fb3⟩ := Row.cells4 rb
  obtain ⟨so, co0, co1, co2, co3, fo0, fo1, fo2, fo3⟩ := Row.cells4 ro
  obtain ⟨ss, cs0, cs1, cs2, cs3, cs4, cs5, cs6, cs7⟩ := Row.cells8 rs
  refine (ivcompute_ok 104 _ _ 2 (fun v => v = divI a b) _ egG (fun W h => contains2 131 egC _ a b W (Row.below rs h) (fun W2 h2 => ivbad a (da.mono (by omega)) oa W2 ((he.below (hB.trans (h.mono hB.size))).below h2)) (fun W2 h2 => ivbad b (db.mono (by omega)) ob W2 ((he.below (hB.trans (h.mono hB.size))).below h2))) (fun W h => (ediv1 _ _ j k a b da db hjk ob hf W (he.below (hB.trans (h.mono hB.size))) (Row.below ra h) (Row.below rb h)).mono fun e w' hh => ⟨_, rfl, hh.1, hh.2⟩)).mono ?_
  rintro e W1 ⟨v, pv, rfl, h1⟩
  have PV := Lib.hid pv
  clear pv
  clear sa ca0 ca1 ca2 ca3 fa0 fa1 fa2 fa3
  clear sb cb0 cb1 cb2 cb3 fb0 fb1 fb2 fb3
  clear so co0 co1 co2 co3 fo0 fo1 fo2 fo3
  clear ss cs0 cs1 cs2 cs3 cs4 cs5 cs6 cs7
  replace hB := hB.trans (h1.mono hB.size)
  replace ra := Row.below ra h1
  replace rb := Row.below rb h1
  replace ro := Row.below ro h1
  replace rs := Row.below rs h1
  clear h1
  obtain ⟨sa, ca0, ca1, ca2, ca3, fa0, fa1, fa2, fa3⟩ := Row.cells4 ra
  obtain ⟨sb, cb0, cb1, cb2, cb3, fb0, fb1, fb2, fb3⟩ := Row.cells4 rb
  obtain ⟨so, co0, co1, co2, co3, fo0, fo1, fo2, fo3⟩ := Row.cells4 ro
  obtain ⟨ss, cs0, cs1, cs2, cs3, cs4, cs5, cs6, cs7⟩ := Row.cells8 rs
  clear hmf egG egC
  unfold I
  go_wp2
  have sB := hB.size
  refine post_cut (fun X => Below w.heap.size w X ∧ Row X w.heap.size (.cells #[.string (S a.lo.num), .string (S (a.lo.den : Int)), .string (S a.hi.num), .string (S (a.hi.den : Int))] 29) ∧ Row X (w.heap.size + 1) (.cells #[.string (S b.lo.num), .string (S (b.lo.den : Int)), .string (S b.hi.num), .string (S (b.hi.den : Int))] 29) ∧ Row X (w.heap.size + 1 + 1) (.cells #[.string (S v.lo.num), .string (S (v.lo.den : Int)), .string (S v.hi.num), .string (S (v.hi.den : Int))] 29) ∧ Row X (w.heap.size + 1 + 1 + 1) (.cells #[.string (S a.lo.num), .string (S (a.lo.den : Int)), .string (S a.hi.num), .string (S (a.hi.den : Int)), .string (S b.lo.num), .string (S (b.lo.den : Int)), .string (S b.hi.num), .string (S (b.hi.den : Int))] 29)) ⟨C1_hB, C3_ra, C3_rb, C3_ro, C3_rs⟩ ?_
  clear ra
  clear sa ca0 ca1 ca2 ca3 fa0 fa1 fa2 fa3
  clear rb
  clear sb cb0 cb1 cb2 cb3 fb0 fb1 fb2 fb3
  clear ro
  clear so co0 co1 co2 co3 fo0 fo1 fo2 fo3
  clear rs
  clear ss cs0 cs1 cs2 cs3 cs4 cs5 cs6 cs7
  clear hB sB
  rintro V2 ⟨hB, ra, rb, ro, rs⟩
  obtain ⟨sa, ca0, ca1, ca2, ca3, fa0, fa1, fa2, fa3⟩ := Row.cells4 ra
  obtain ⟨sb, cb0, cb1, cb2, cb3, fb0, fb1, fb2, fb3⟩ := Row.cells4 rb
  obtain ⟨so, co0, co1, co2, co3, fo0, fo1, fo2, fo3⟩ := Row.cells4 ro
  obtain ⟨ss, cs0, cs1, cs2, cs3, cs4, cs5, cs6, cs7⟩ := Row.cells8 rs
  refine bodyPost_ret (v := .tuple #[.agg #[.string (S v.lo.num), .string (S (v.lo.den : Int)), .string (S v.hi.num), .string (S (v.hi.den : Int))], .int .i64 0]) ?res rfl ⟨_, PV.out, rfl, hB⟩
  case res => simp [results, Tryz.results51, go_sem, co0, co1, co2, co3]
set_option maxRecDepth 100000 in
set_option maxHeartbeats 4000000 in
theorem ediv_err {j k : Nat} {a0 : Addr} {a b : Iv} (da : IDig j a) (db : IDig k b) (oa : a.Ok) (ob : b.Ok) (hf : b.Has 0) (hjk : j + k ≤ 200) (w : World) (he : EnvE a0 w) :
    Calls Tryz.prog 51 #[I a, I b] w (ivErr w) := by
  have egG : ∀ args w, (callFunc 104 args).run Tryz.prog w = .ok (.enter 104 args) w := enters_of Tryz.func104 (by kernel_rfl) rfl
  have egC : ∀ args w, (callFunc 131 args).run Tryz.prog w = .ok (.enter 131 args) w := enters_of Tryz.func131 (by kernel_rfl) rfl
  have hB : Below w.heap.size w w := Below.refl _ _
  show Calls Tryz.prog 51 #[.agg #[.string (S a.lo.num), .string (S (a.lo.den : Int)), .string (S a.hi.num), .string (S (a.hi.den : Int))], .agg #[.string (S b.lo.num), .string (S (b.lo.den : Int)), .string (S b.hi.num), .string (S (b.hi.den : Int))]] w _
  go_enter Tryz.func51, Tryz.ntmps51
  have hmf : ∀ (fn : Fn) (first cap : Array Value) (w : World), (Instr.makeFunc fn first cap).run Tryz.prog w = .ok (.func fn first cap) w := fun _ _ _ _ => rfl
  go_wp2_with fail
  have sB := hB.size
  refine world_cut (fun X => Below w.heap.size w X ∧ Row X w.heap.size (.cells #[.string (S a.lo.num), .string (S (a.lo.den : Int)), .string (S a.hi.num), .string (S (a.hi.den : Int))] 29) ∧ Row X (w.heap.size + 1) (.cells #[.string (S b.lo.num), .string (S (b.lo.den : Int)), .string (S b.hi.num), .string (S (b.hi.den : Int))] 29) ∧ Row X (w.heap.size + 1 + 1) (.cells #[.string ⟨#[]⟩, .string ⟨#[]⟩, .string ⟨#[]⟩, .string ⟨#[]⟩] 29) ∧ Row X (w.heap.size + 1 + 1 + 1) (.cells #[.string (S a.lo.num), .string (S (a.lo.den : Int)), .string (S a.hi.num), .string (S (a.hi.den : Int)), .string (S b.lo.num), .string (S (b.lo.den : Int)), .string (S b.hi.num), .string (S (b.hi.den : Int))] 29)) ⟨C1_hB, C2, C2, C2, C2⟩ ?_
  clear hB sB
  rintro V1 ⟨hB, ra, rb, ro, rs⟩
  obtain ⟨sa, ca0, ca1, ca2, ca3, fa0, fa1, fa2, fa3⟩ := Row.cells4 ra
  obtain ⟨sb, cb0, cb1, cb2, cb3, fb0, fb1, fb2, fb3⟩ := Row.cells4 rb
  obtain ⟨so, co0, co1, co2, co3, fo0, fo1, fo2, fo3⟩ := Row.cells4 ro
  obtain ⟨ss, cs0, cs1, cs2, cs3, cs4, cs5, cs6, cs7⟩ := Row.cells8 rs
  refine (ivcompute_err 104 _ _ 2 a0 _ (he.below hB) egG (fun W h => contains2 131 egC _ a b W (Row.below rs h) (fun W2 h2 => ivbad a (da.mono (by omega)) oa W2 ((he.env.below (hB.trans (h.mono hB.size))).below h2)) (fun W2 h2 => ivbad b (db.mono (by omega)) ob W2 ((he.env.below (hB.trans (h.mono hB.size))).below h2))) (fun W h => ediv1_err a0 _ k _ b db (by omega) hf W (he.below (hB.trans (h.mono hB.size))) (Row.below rb h))).mono ?_
  rintro e W1 ⟨rfl, h1⟩
  clear sa ca0 ca1 ca2 ca3 fa0 fa1 fa2 fa3
  clear sb cb0 cb1 cb2 cb3 fb0 fb1 fb2 fb3
  clear so co0 co1 co2 co3 fo0 fo1 fo2 fo3
  clear ss cs0 cs1 cs2 cs3 cs4 cs5 cs6 cs7
  replace hB := hB.trans (h1.mono hB.size)
  replace ra := Row.below ra h1
  replace rb := Row.below rb h1
  replace ro := Row.below ro h1
  replace rs := Row.below rs h1
  clear h1
  obtain ⟨sa, ca0, ca1, ca2, ca3, fa0, fa1, fa2, fa3⟩ := Row.cells4 ra
  obtain ⟨sb, cb0, cb1, cb2, cb3, fb0, fb1, fb2, fb3⟩ := Row.cells4 rb
  obtain ⟨so, co0, co1, co2, co3, fo0, fo1, fo2, fo3⟩ := Row.cells4 ro
  obtain ⟨ss, cs0, cs1, cs2, cs3, cs4, cs5, cs6, cs7⟩ := Row.cells8 rs
  clear hmf egG egC
  skip
  go_wp2
  have sB := hB.size
  refine post_cut (fun X => Below w.heap.size w X ∧ Row X w.heap.size (.cells #[.string (S a.lo.num), .string (S (a.lo.den : Int)), .string (S a.hi.num), .string (S (a.hi.den : Int))] 29) ∧ Row X (w.heap.size + 1) (.cells #[.string (S b.lo.num), .string (S (b.lo.den : Int)), .string (S b.hi.num), .string (S (b.hi.den : Int))] 29) ∧ Row X (w.heap.size + 1 + 1) (.cells #[.string ⟨#[]⟩, .string ⟨#[]⟩, .string ⟨#[]⟩, .string ⟨#[]⟩] 29) ∧ Row X (w.heap.size + 1 + 1 + 1) (.cells #[.string (S a.lo.num), .string (S (a.lo.den : Int)), .string (S a.hi.num), .string (S (a.hi.den : Int)), .string (S b.lo.num), .string (S (b.lo.den : Int)), .string (S b.hi.num), .string (S (b.hi.den : Int))] 29)) ⟨C1_hB, C3_ra, C3_rb, C3_ro, C3_rs⟩ ?_
  clear ra
  clear sa ca0 ca1 ca2 ca3 fa0 fa1 fa2 fa3
  clear rb
  clear sb cb0 cb1 cb2 cb3 fb0 fb1 fb2 fb3
  clear ro
  clear so co0 co1 co2 co3 fo0 fo1 fo2 fo3
  clear rs
  clear ss cs0 cs1 cs2 cs3 cs4 cs5 cs6 cs7
  clear hB sB
  rintro V2 ⟨hB, ra, rb, ro, rs⟩
  obtain ⟨sa, ca0, ca1, ca2, ca3, fa0, fa1, fa2, fa3⟩ := Row.cells4 ra
  obtain ⟨sb, cb0, cb1, cb2, cb3, fb0, fb1, fb2, fb3⟩ := Row.cells4 rb
  obtain ⟨so, co0, co1, co2, co3, fo0, fo1, fo2, fo3⟩ := Row.cells4 ro
  obtain ⟨ss, cs0, cs1, cs2, cs3, cs4, cs5, cs6, cs7⟩ := Row.cells8 rs
  refine bodyPost_ret (v := .tuple #[.agg #[.string ⟨#[]⟩, .string ⟨#[]⟩, .string ⟨#[]⟩, .string ⟨#[]⟩], .int .i64 50]) ?res rfl ⟨rfl, hB⟩
  case res => simp [results, Tryz.results51, go_sem, co0, co1, co2, co3]
set_option maxRecDepth 100000 in
set_option maxHeartbeats 4000000 in
theorem ehullI {j k : Nat} {a b : Iv} (da : IDig j a) (db : IDig k b) (oa : a.Ok) (ob : b.Ok) (hjk : j + k ≤ 200) (w : World) (he : Env w) :
    Calls Tryz.prog 77 #[I a, I b] w (ivOk (fun v => v = hullI a b) w) := by
  have egG : ∀ args w, (callFunc 141 args).run Tryz.prog w = .ok (.enter 141 args) w := enters_of Tryz.func141 (by kernel_rfl) rfl
  have egC : ∀ args w, (callFunc 131 args).run Tryz.prog w = .ok (.enter 131 args) w := enters_of Tryz.func131 (by kernel_rfl) rfl
  have hB : Below w.heap.size w w := Below.refl _ _
  show Calls Tryz.prog 77 #[.agg #[.string (S a.lo.num), .string (S (a.lo.den : Int)), .string (S a.hi.num), .string (S (a.hi.den : Int))], .agg #[.string (S b.lo.num), .string (S (b.lo.den : Int)), .string (S b.hi.num), .string (S (b.hi.den : Int))]] w _
  go_enter Tryz.func77, Tryz.ntmps77
  have hmf : ∀ (fn : Fn) (first cap : Array Value) (w : World), (Instr.makeFunc fn first cap).run Tryz.prog w = .ok (.func fn first cap) w := fun _ _ _ _ => rfl
  go_wp2_with fail
  have sB := hB.size
  refine world_cut (fun X => Below w.heap.size w X ∧ Row X w.heap.size (.cells #[.string (S a.lo.num), .string (S (a.lo.den : Int)), .string (S a.hi.num), .string (S (a.hi.den : Int))] 29) ∧ Row X (w.heap.size + 1) (.cells #[.string (S b.lo.num), .string (S (b.lo.den : Int)), .string (S b.hi.num), .string (S (b.hi.den : Int))] 29) ∧ Row X (w.heap.size + 1 + 1) (.cells #[.string ⟨#[]⟩, .string ⟨#[]⟩, .string ⟨#[]⟩, .string ⟨#[]⟩] 29) ∧ Row X (w.heap.size + 1 + 1 + 1) (.cells #[.string (S a.lo.num), .string (S (a.lo.den : Int)), .string (S a.hi.num), .string (S (a.hi.den : Int)), .string (S b.lo.num), .string (S (b.lo.den : Int)), .string (S b.hi.num), .string (S (b.hi.den : Int))] 29)) ⟨C1_hB, C2, C2, C2, C2⟩ ?_
  clear hB sB
  rintro V1 ⟨hB, ra, rb, ro, rs⟩
  obtain ⟨sa, ca0, ca1, ca2, ca3, fa0, fa1, fa2, fa3⟩ := Row.cells4 ra
  obtain ⟨sb, cb0, cb1, cb2, cb3, fb0, fb1, fb2, fb3⟩ := Row.cells4 rb
  obtain ⟨so, co0, co1, co2, co3, fo0, fo1, fo2, fo3⟩ := Row.cells4 ro
  obtain ⟨ss, cs0, cs1, cs2, cs3, cs4, cs5, cs6, cs7⟩ := Row.cells8 rs
  refine (ivcompute_ok 141 _ _ 2 (fun v => v = hullI a b) _ egG (fun W h => contains2 131 egC _ a b W (Row.below rs h) (fun W2 h2 => ivbad a (da.mono (by omega)) oa W2 ((he.below (hB.trans (h.mono hB.size))).below h2)) (fun W2 h2 => ivbad b (db.mono (by omega)) ob W2 ((he.below (hB.trans (h.mono hB.size))).below h2))) (fun W h => (ehull1 _ _ a b (da.mono (by omega)) (db.mono (by omega)) W (he.below (hB.trans (h.mono hB.size))) (Row.below ra h) (Row.below rb h)).mono fun e w' hh => ⟨_, rfl, hh.1, hh.2⟩)).mono ?_
  rintro e W1 ⟨v, pv, rfl, h1⟩
  have PV := Lib.hid pv
  clear pv
  clear sa ca0 ca1 ca2 ca3 fa0 fa1 fa2 fa3
  clear sb cb0 cb1 cb2 cb3 fb0 fb1 fb2 fb3
  clear so co0 co1 co2 co3 fo0 fo1 fo2 fo3
  clear ss cs0 cs1 cs2 cs3 cs4 cs5 cs6 cs7
  replace hB := hB.trans (h1.mono hB.size)
  replace ra := Row.below ra h1
  replace rb := Row.below rb h1
  replace ro := Row.below ro h1
  replace rs := Row.below rs h1
  clear h1
  obtain ⟨sa, ca0, ca1, ca2, ca3, fa0, fa1, fa2, fa3⟩ := Row.cells4 ra
  obtain ⟨sb, cb0, cb1, cb2, cb3, fb0, fb1, fb2, fb3⟩ := Row.cells4 rb
  obtain ⟨so, co0, co1, co2, co3, fo0, fo1, fo2, fo3⟩ := Row.cells4 ro
  obtain ⟨ss, cs0, cs1, cs2, cs3, cs4, cs5, cs6, cs7⟩ := Row.cells8 rs
  clear hmf egG egC
  unfold I
  go_wp2
  have sB := hB.size
  refine post_cut (fun X => Below w.heap.size w X ∧ Row X w.heap.size (.cells #[.string (S a.lo.num), .string (S (a.lo.den : Int)), .string (S a.hi.num), .string (S (a.hi.den : Int))] 29) ∧ Row X (w.heap.size + 1) (.cells #[.string (S b.lo.num), .string (S (b.lo.den : Int)), .string (S b.hi.num), .string (S (b.hi.den : Int))] 29) ∧ Row X (w.heap.size + 1 + 1) (.cells #[.string (S v.lo.num), .string (S (v.lo.den : Int)), .string (S v.hi.num), .string (S (v.hi.den : Int))] 29) ∧ Row X (w.heap.size + 1 + 1 + 1) (.cells #[.string (S a.lo.num), .string (S (a.lo.den : Int)), .string (S a.hi.num), .string (S (a.hi.den : Int)), .string (S b.lo.num), .string (S (b.lo.den : Int)), .string (S b.hi.num), .string (S (b.hi.den : Int))] 29)) ⟨C1_hB, C3_ra, C3_rb, C3_ro, C3_rs⟩ ?_
  clear ra
  clear sa ca0 ca1 ca2 ca3 fa0 fa1 fa2 fa3
  clear rb
  clear sb cb0 cb1 cb2 cb3 fb0 fb1 fb2 fb3
  clear ro
  clear so co0 co1 co2 co3 fo0 fo1 fo2 fo3
  clear rs
  clear ss cs0 cs1 cs2 cs3 cs4 cs5 cs6 cs7
  clear hB sB
  rintro V2 ⟨hB, ra, rb, ro, rs⟩
  obtain ⟨sa, ca0, ca1, ca2, ca3, fa0, fa1, fa2, fa3⟩ := Row.cells4 ra
  obtain ⟨sb, cb0, cb1, cb2, cb3, fb0, fb1, fb2, fb3⟩ := Row.cells4 rb
  obtain ⟨so, co0, co1, co2, co3, fo0, fo1, fo2, fo3⟩ := Row.cells4 ro
  obtain ⟨ss, cs0, cs1, cs2, cs3, cs4, cs5, cs6, cs7⟩ := Row.cells8 rs
  refine bodyPost_ret (v := .tuple #[.agg #[.string (S v.lo.num), .string (S (v.lo.den : Int)), .string (S v.hi.num), .string (S (v.hi.den : Int))], .int .i64 0]) ?res rfl ⟨_, PV.out, rfl, hB⟩
  case res => simp [results, Tryz.results77, go_sem, co0, co1, co2, co3]
set_option maxRecDepth 100000 in
set_option maxHeartbeats 4000000 in
theorem ewidth {j : Nat} {a : Iv} (da : IDig j a) (oa : a.Ok) (hjk : j + j + 1 ≤ 200) (w : World) (he : Env w) :
    Calls Tryz.prog 48 #[I a] w (rtOk (fun v => v = a.hi - a.lo) w) := by
  have egG : ∀ args w, (callFunc 101 args).run Tryz.prog w = .ok (.enter 101 args) w := enters_of Tryz.func101 (by kernel_rfl) rfl
  have egC : ∀ args w, (callFunc 154 args).run Tryz.prog w = .ok (.enter 154 args) w := enters_of Tryz.func154 (by kernel_rfl) rfl
  have hB : Below w.heap.size w w := Below.refl _ _
  show Calls Tryz.prog 48 #[.agg #[.string (S a.lo.num), .string (S (a.lo.den : Int)), .string (S a.hi.num), .string (S (a.hi.den : Int))]] w _
  go_enter Tryz.func48, Tryz.ntmps48
  have hmf : ∀ (fn : Fn) (first cap : Array Value) (w : World), (Instr.makeFunc fn first cap).run Tryz.prog w = .ok (.func fn first cap) w := fun _ _ _ _ => rfl
  go_wp2_with fail
  have sB := hB.size
  refine world_cut (fun X => Below w.heap.size w X ∧ Row X w.heap.size (.cells #[.string (S a.lo.num), .string (S (a.lo.den : Int)), .string (S a.hi.num), .string (S (a.hi.den : Int))] 29) ∧ Row X (w.heap.size + 1) (.cells #[.string ⟨#[]⟩, .string ⟨#[]⟩] 26) ∧ Row X (w.heap.size + 1 + 1) (.cells #[.string (S a.lo.num), .string (S (a.lo.den : Int)), .string (S a.hi.num), .string (S (a.hi.den : Int))] 29)) ⟨C1_hB, C2, C2, C2⟩ ?_
  clear hB sB
  rintro V1 ⟨hB, ra, ro, rs⟩
  obtain ⟨sa, ca0, ca1, ca2, ca3, fa0, fa1, fa2, fa3⟩ := Row.cells4 ra
  obtain ⟨so, co0, co1, fo0, fo1⟩ := Row.cells2 ro
  obtain ⟨ss, cs0, cs1, cs2, cs3, fs0, fs1, fs2, fs3⟩ := Row.cells4 rs
  refine (rtcompute_ok 101 _ _ 1 (fun v => v = a.hi - a.lo) _ egG (fun W h => contains1 154 egC _ a W (Row.below rs h) (fun W2 h2 => rtbad a (da.mono (by omega)) oa W2 ((he.below (hB.trans (h.mono hB.size))).below h2))) (fun W h => (ewidth1 _ j a da hjk W (he.below (hB.trans (h.mono hB.size))) (Row.below ra h)).mono fun e w' hh => ⟨_, rfl, hh.1, hh.2⟩)).mono ?_
  rintro e W1 ⟨v, pv, rfl, h1⟩
  have PV := Lib.hid pv
  clear pv
  clear sa ca0 ca1 ca2 ca3 fa0 fa1 fa2 fa3
  clear so co0 co1 fo0 fo1
  clear ss cs0 cs1 cs2 cs3 fs0 fs1 fs2 fs3
  replace hB := hB.trans (h1.mono hB.size)
  replace ra := Row.below ra h1
  replace ro := Row.below ro h1
  replace rs := Row.below rs h1
  clear h1
  obtain ⟨sa, ca0, ca1, ca2, ca3, fa0, fa1, fa2, fa3⟩ := Row.cells4 ra
  obtain ⟨so, co0, co1, fo0, fo1⟩ := Row.cells2 ro
  obtain ⟨ss, cs0, cs1, cs2, cs3, fs0, fs1, fs2, fs3⟩ := Row.cells4 rs
  clear hmf egG egC
  unfold Q
  go_wp2
  have sB := hB.size
  refine post_cut (fun X => Below w.heap.size w X ∧ Row X w.heap.size (.cells #[.string (S a.lo.num), .string (S (a.lo.den : Int)), .string (S a.hi.num), .string (S (a.hi.den : Int))] 29) ∧ Row X (w.heap.size + 1) (.cells #[.string (S v.num), .string (S (v.den : Int))] 26) ∧ Row X (w.heap.size + 1 + 1) (.cells #[.string (S a.lo.num), .string (S (a.lo.den : Int)), .string (S a.hi.num), .string (S (a.hi.den : Int))] 29)) ⟨C1_hB, C3_ra, C3_ro, C3_rs⟩ ?_
  clear ra
  clear sa ca0 ca1 ca2 ca3 fa0 fa1 fa2 fa3
  clear ro
  clear so co0 co1 fo0 fo1
  clear rs
  clear ss cs0 cs1 cs2 cs3 fs0 fs1 fs2 fs3
  clear hB sB
  rintro V2 ⟨hB, ra, ro, rs⟩
  obtain ⟨sa, ca0, ca1, ca2, ca3, fa0, fa1, fa2, fa3⟩ := Row.cells4 ra
  obtain ⟨so, co0, co1, fo0, fo1⟩ := Row.cells2 ro
  obtain ⟨ss, cs0, cs1, cs2, cs3, fs0, fs1, fs2, fs3⟩ := Row.cells4 rs
  refine bodyPost_ret (v := .tuple #[.agg #[.string (S v.num), .string (S (v.den : Int))], .int .i64 0]) ?res rfl ⟨_, PV.out, rfl, hB⟩
  case res => simp [results, Tryz.results48, go_sem, co0, co1]
set_option maxRecDepth 100000 in
set_option maxHeartbeats 4000000 in
theorem epoint (q : Rat) (hq : QDig 200 q) (w : World) (he : Env w) :
    Calls Tryz.prog 55 #[Q q] w fun e w' => e = .returned (I (⟨q, q⟩)) ∧ Below w.heap.size w w' := by
  have hB : Below w.heap.size w w := Below.refl _ _
  have M := fun W (h : Env W) => qvalid q hq W h
  clear hq
  unfold I
  show Calls Tryz.prog 55 #[.agg #[.string (S q.num), .string (S (q.den : Int))]] w _
  go_enter Tryz.func55, Tryz.ntmps55
  go_wp2_with fail
  have sB := hB.size
  refine world_cut (fun X => Below w.heap.size w X ∧ Row X w.heap.size (.cells #[.string (S q.num), .string (S (q.den : Int))] 26) ∧ Row X (w.heap.size + 1) (.cells #[.string ⟨#[]⟩, .string ⟨#[]⟩, .string ⟨#[]⟩, .string ⟨#[]⟩] 29)) ⟨C1_hB, C2, C2⟩ ?_
  clear hB sB
  rintro V1 ⟨hB, rq, ro⟩
  obtain ⟨sq, cq0, cq1, fq0, fq1⟩ := Row.cells2 rq
  obtain ⟨so, co0, co1, co2, co3, fo0, fo1, fo2, fo3⟩ := Row.cells4 ro
  refine (M _ (he.below hB)).mono ?_
  rintro e W2 ⟨rfl, h1⟩
  clear sq cq0 cq1 fq0 fq1
  clear so co0 co1 co2 co3 fo0 fo1 fo2 fo3
  replace hB := hB.trans (h1.mono hB.size)
  replace rq := Row.below rq h1
  replace ro := Row.below ro h1
  clear h1
  obtain ⟨sq, cq0, cq1, fq0, fq1⟩ := Row.cells2 rq
  obtain ⟨so, co0, co1, co2, co3, fo0, fo1, fo2, fo3⟩ := Row.cells4 ro
  go_wp2
  have sB := hB.size
  refine post_cut (fun X => Below w.heap.size w X ∧ Row X w.heap.size (.cells #[.string (S q.num), .string (S (q.den : Int))] 26) ∧ Row X (w.heap.size + 1) (.cells #[.string (S q.num), .string (S (q.den : Int)), .string (S q.num), .string (S (q.den : Int))] 29)) ⟨C1_hB, C3_rq, C3_ro⟩ ?_
  clear rq
  clear sq cq0 cq1 fq0 fq1
  clear ro
  clear so co0 co1 co2 co3 fo0 fo1 fo2 fo3
  clear hB sB
  rintro V3 ⟨hB, rq, ro⟩
  obtain ⟨sq, cq0, cq1, fq0, fq1⟩ := Row.cells2 rq
  obtain ⟨so, co0, co1, co2, co3, fo0, fo1, fo2, fo3⟩ := Row.cells4 ro
  refine bodyPost_ret (v := .agg #[.string (S q.num), .string (S (q.den : Int)), .string (S q.num), .string (S (q.den : Int))]) ?res rfl ⟨rfl, hB⟩
  case res => simp [results, Tryz.results55, go_sem, co0, co1, co2, co3]
end Go.Proofs.YtngohpgkceedeaaGreatDoor
