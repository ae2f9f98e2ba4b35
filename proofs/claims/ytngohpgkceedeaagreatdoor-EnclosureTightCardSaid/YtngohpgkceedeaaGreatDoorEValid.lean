/-
  Package enclosure: Valid, Contains, Within; that all intervals of a slice are valid.
-/
import Derived.Test.YtngohpgkceedeaaGreatDoorECompute
import Derived.Test.YtngohpgkceedeaaGreatDoorQCmp
import Derived.Test.YtngohpgkceedeaaGreatDoorChains
namespace Go.Proofs.YtngohpgkceedeaaGreatDoor
open Go Go.RowKit Go.Lib Go.Shelf

set_option maxRecDepth 100000 in
set_option maxHeartbeats 4000000 in
theorem evalid (a : Iv) (ha : IDig 200 a) (w : World) (he : Env w) : Calls Tryz.prog 54 #[I a] w (BoolOk (decide (a.lo ≤ a.hi)) w) := by
  have hB : Below w.heap.size w w := Below.refl _ _
  have h1 := fun W (h : Env W) => qvalid a.lo ha.1 W h
  have h2 := fun W (h : Env W) => qvalid a.hi ha.2 W h
  have h3 := fun W (h : Env W) => qcompare a.lo a.hi ha.1 ha.2 W h
  have dc : ∀ c, decide (cmpQ a.lo a.hi ≤ 0) = c → decide (a.lo ≤ a.hi) = c := fun c h => by rw [← h]; exact decide_eq_decide.2 cmpQ_le.symm
  generalize decide (a.lo ≤ a.hi) = c at *
  generalize cmpQ a.lo a.hi = g at *
  show Calls Tryz.prog 54 #[.agg #[.string (S a.lo.num), .string (S (a.lo.den : Int)), .string (S a.hi.num), .string (S (a.hi.den : Int))]] w _
  go_enter Tryz.func54, Tryz.ntmps54
  go_wp2_with fail
  have sB := hB.size
  refine world_cut (fun X => Below w.heap.size w X ∧ Row X w.heap.size (.cells #[.string (S a.lo.num), .string (S (a.lo.den : Int)), .string (S a.hi.num), .string (S (a.hi.den : Int))] 29)) ⟨C1_hB, C2⟩ ?_
  clear hB sB
  rintro V1 ⟨hB, ra⟩
  obtain ⟨sa, ca0, ca1, ca2, ca3, fa0, fa1, fa2, fa3⟩ := Row.cells4 ra
  refine (h1 _ (he.below hB)).mono ?_
  rintro e W2 ⟨rfl, h1⟩
  clear sa ca0 ca1 ca2 ca3 fa0 fa1 fa2 fa3
  replace hB := hB.trans (h1.mono hB.size)
  replace ra := Row.below ra h1
  clear h1
  obtain ⟨sa, ca0, ca1, ca2, ca3, fa0, fa1, fa2, fa3⟩ := Row.cells4 ra
  go_wp2_with fail
  refine (h2 _ (he.below hB)).mono ?_
  rintro e W3 ⟨rfl, h1⟩
  clear sa ca0 ca1 ca2 ca3 fa0 fa1 fa2 fa3
  replace hB := hB.trans (h1.mono hB.size)
  replace ra := Row.below ra h1
  clear h1
  obtain ⟨sa, ca0, ca1, ca2, ca3, fa0, fa1, fa2, fa3⟩ := Row.cells4 ra
  go_wp2_with fail
  refine (h3 _ (he.below hB)).mono ?_
  rintro e W4 ⟨rfl, h1⟩
  clear sa ca0 ca1 ca2 ca3 fa0 fa1 fa2 fa3
  replace hB := hB.trans (h1.mono hB.size)
  replace ra := Row.below ra h1
  clear h1
  obtain ⟨sa, ca0, ca1, ca2, ca3, fa0, fa1, fa2, fa3⟩ := Row.cells4 ra
  go_wp2
  go_ret
  exact ⟨by rw [dc _ rfl]; rfl, hB⟩
set_option maxRecDepth 100000 in
set_option maxHeartbeats 4000000 in
theorem evalid_zero (w : World) : Calls Tryz.prog 54 #[.agg #[.string ⟨#[]⟩, .string ⟨#[]⟩, .string ⟨#[]⟩, .string ⟨#[]⟩]] w (BoolOk false w) := by
  have hB : Below w.heap.size w w := Below.refl _ _
  go_enter Tryz.func54, Tryz.ntmps54
  go_wp2_with fail
  have sB := hB.size
  refine world_cut (fun X => Below w.heap.size w X ∧ Row X w.heap.size (.cells #[.string ⟨#[]⟩, .string ⟨#[]⟩, .string ⟨#[]⟩, .string ⟨#[]⟩] 29)) ⟨C1_hB, C2⟩ ?_
  clear hB sB
  rintro V1 ⟨hB, ra⟩
  obtain ⟨sa, ca0, ca1, ca2, ca3, fa0, fa1, fa2, fa3⟩ := Row.cells4 ra
  refine (qvalid_zero _).mono ?_
  rintro e W2 ⟨rfl, h1⟩
  clear sa ca0 ca1 ca2 ca3 fa0 fa1 fa2 fa3
  replace hB := hB.trans (h1.mono hB.size)
  replace ra := Row.below ra h1
  clear h1
  obtain ⟨sa, ca0, ca1, ca2, ca3, fa0, fa1, fa2, fa3⟩ := Row.cells4 ra
  go_wp2
  go_ret
  exact ⟨rfl, hB⟩
set_option maxRecDepth 100000 in
set_option maxHeartbeats 4000000 in
theorem econtains_inv (a : Iv) (r : Rat) (ha : IDig 200 a) (_hr : QDig 200 r) (w : World) (he : Env w) (ho : ¬ a.lo ≤ a.hi) : Calls Tryz.prog 23 #[I a, Q r] w (BoolOk (false) w) := by
  have hB : Below w.heap.size w w := Below.refl _ _
  have h1 := fun W (h : Env W) => evalid a ha W h
  rw [decide_eq_false ho] at h1
  show Calls Tryz.prog 23 #[.agg #[.string (S a.lo.num), .string (S (a.lo.den : Int)), .string (S a.hi.num), .string (S (a.hi.den : Int))], .agg #[.string (S r.num), .string (S (r.den : Int))]] w _
  go_enter Tryz.func23, Tryz.ntmps23
  go_wp2_with fail
  have sB := hB.size
  refine world_cut (fun X => Below w.heap.size w X ∧ Row X w.heap.size (.cells #[.string (S a.lo.num), .string (S (a.lo.den : Int)), .string (S a.hi.num), .string (S (a.hi.den : Int))] 29) ∧ Row X (w.heap.size + 1) (.cells #[.string (S r.num), .string (S (r.den : Int))] 26)) ⟨C1_hB, C2, C2⟩ ?_
  clear hB sB
  rintro V1 ⟨hB, ra, rr⟩
  obtain ⟨sa, ca0, ca1, ca2, ca3, fa0, fa1, fa2, fa3⟩ := Row.cells4 ra
  obtain ⟨sr, cr0, cr1, fr0, fr1⟩ := Row.cells2 rr
  refine (h1 _ (he.below hB)).mono ?_
  rintro e W2 ⟨rfl, h1⟩
  clear sa ca0 ca1 ca2 ca3 fa0 fa1 fa2 fa3
  clear sr cr0 cr1 fr0 fr1
  replace hB := hB.trans (h1.mono hB.size)
  replace ra := Row.below ra h1
  replace rr := Row.below rr h1
  clear h1
  obtain ⟨sa, ca0, ca1, ca2, ca3, fa0, fa1, fa2, fa3⟩ := Row.cells4 ra
  obtain ⟨sr, cr0, cr1, fr0, fr1⟩ := Row.cells2 rr
  go_wp2
  go_ret
  exact ⟨rfl, hB⟩
set_option maxRecDepth 100000 in
set_option maxHeartbeats 4000000 in
theorem econtains_low (a : Iv) (r : Rat) (ha : IDig 200 a) (hr : QDig 200 r) (w : World) (he : Env w) (ho : a.lo ≤ a.hi) (hl : ¬ a.lo ≤ r) : Calls Tryz.prog 23 #[I a, Q r] w (BoolOk (false) w) := by
  have hB : Below w.heap.size w w := Below.refl _ _
  have h1 := fun W (h : Env W) => evalid a ha W h
  have h2 := fun W (h : Env W) => qvalid r hr W h
  have h3 := fun W (h : Env W) => qcompare a.lo r ha.1 hr W h
  rw [decide_eq_true ho] at h1
  have g1 := fun h => hl (cmpQ_le.1 h)
  generalize cmpQ a.lo r = g at *
  have g2 : decide (g ≤ 0) = false := decide_eq_false g1
  clear g1
  show Calls Tryz.prog 23 #[.agg #[.string (S a.lo.num), .string (S (a.lo.den : Int)), .string (S a.hi.num), .string (S (a.hi.den : Int))], .agg #[.string (S r.num), .string (S (r.den : Int))]] w _
  go_enter Tryz.func23, Tryz.ntmps23
  go_wp2_with fail
  have sB := hB.size
  refine world_cut (fun X => Below w.heap.size w X ∧ Row X w.heap.size (.cells #[.string (S a.lo.num), .string (S (a.lo.den : Int)), .string (S a.hi.num), .string (S (a.hi.den : Int))] 29) ∧ Row X (w.heap.size + 1) (.cells #[.string (S r.num), .string (S (r.den : Int))] 26)) ⟨C1_hB, C2, C2⟩ ?_
  clear hB sB
  rintro V1 ⟨hB, ra, rr⟩
  obtain ⟨sa, ca0, ca1, ca2, ca3, fa0, fa1, fa2, fa3⟩ := Row.cells4 ra
  obtain ⟨sr, cr0, cr1, fr0, fr1⟩ := Row.cells2 rr
  refine (h1 _ (he.below hB)).mono ?_
  rintro e W2 ⟨rfl, h1⟩
  clear sa ca0 ca1 ca2 ca3 fa0 fa1 fa2 fa3
  clear sr cr0 cr1 fr0 fr1
  replace hB := hB.trans (h1.mono hB.size)
  replace ra := Row.below ra h1
  replace rr := Row.below rr h1
  clear h1
  obtain ⟨sa, ca0, ca1, ca2, ca3, fa0, fa1, fa2, fa3⟩ := Row.cells4 ra
  obtain ⟨sr, cr0, cr1, fr0, fr1⟩ := Row.cells2 rr
  go_wp2_with fail
  refine (h2 _ (he.below hB)).mono ?_
  rintro e W3 ⟨rfl, h1⟩
  clear sa ca0 ca1 ca2 ca3 fa0 fa1 fa2 fa3
  clear sr cr0 cr1 fr0 fr1
  replace hB := hB.trans (h1.mono hB.size)
  replace ra := Row.below ra h1
  replace rr := Row.below rr h1
  clear h1
  obtain ⟨sa, ca0, ca1, ca2, ca3, fa0, fa1, fa2, fa3⟩ := Row.cells4 ra
  obtain ⟨sr, cr0, cr1, fr0, fr1⟩ := Row.cells2 rr
  go_wp2_with fail
  refine (h3 _ (he.below hB)).mono ?_
  rintro e W4 ⟨rfl, h1⟩
  clear sa ca0 ca1 ca2 ca3 fa0 fa1 fa2 fa3
  clear sr cr0 cr1 fr0 fr1
  replace hB := hB.trans (h1.mono hB.size)
  replace ra := Row.below ra h1
  replace rr := Row.below rr h1
  clear h1
  obtain ⟨sa, ca0, ca1, ca2, ca3, fa0, fa1, fa2, fa3⟩ := Row.cells4 ra
  obtain ⟨sr, cr0, cr1, fr0, fr1⟩ := Row.cells2 rr
  go_wp2
  go_ret
  exact ⟨rfl, hB⟩
set_option maxRecDepth 100000 in
set_option maxHeartbeats 4000000 in
theorem econtains_in (a : Iv) (r : Rat) (ha : IDig 200 a) (hr : QDig 200 r) (w : World) (he : Env w) (ho : a.lo ≤ a.hi) (hl : a.lo ≤ r) : Calls Tryz.prog 23 #[I a, Q r] w (BoolOk (decide (r ≤ a.hi)) w) := by
  have hB : Below w.heap.size w w := Below.refl _ _
  have h1 := fun W (h : Env W) => evalid a ha W h
  have h2 := fun W (h : Env W) => qvalid r hr W h
  have h3 := fun W (h : Env W) => qcompare a.lo r ha.1 hr W h
  have h4 := fun W (h : Env W) => qcompare r a.hi hr ha.2 W h
  rw [decide_eq_true ho] at h1
  have g1 := cmpQ_le.2 hl
  generalize cmpQ a.lo r = g at *
  have dc : ∀ c, decide (cmpQ r a.hi ≤ 0) = c → decide (r ≤ a.hi) = c := fun c h => by rw [← h]; exact decide_eq_decide.2 cmpQ_le.symm
  generalize decide (r ≤ a.hi) = c at *
  generalize cmpQ r a.hi = k at *
  have g2 : decide (g ≤ 0) = true := decide_eq_true g1
  clear g1
  show Calls Tryz.prog 23 #[.agg #[.string (S a.lo.num), .string (S (a.lo.den : Int)), .string (S a.hi.num), .string (S (a.hi.den : Int))], .agg #[.string (S r.num), .string (S (r.den : Int))]] w _
  go_enter Tryz.func23, Tryz.ntmps23
  go_wp2_with fail
  have sB := hB.size
  refine world_cut (fun X => Below w.heap.size w X ∧ Row X w.heap.size (.cells #[.string (S a.lo.num), .string (S (a.lo.den : Int)), .string (S a.hi.num), .string (S (a.hi.den : Int))] 29) ∧ Row X (w.heap.size + 1) (.cells #[.string (S r.num), .string (S (r.den : Int))] 26)) ⟨C1_hB, C2, C2⟩ ?_
  clear hB sB
  rintro V1 ⟨hB, ra, rr⟩
  obtain ⟨sa, ca0, ca1, ca2, ca3, fa0, fa1, fa2, fa3⟩ := Row.cells4 ra
  obtain ⟨sr, cr0, cr1, fr0, fr1⟩ := Row.cells2 rr
  refine (h1 _ (he.below hB)).mono ?_
  rintro e W2 ⟨rfl, h1⟩
  clear sa ca0 ca1 ca2 ca3 fa0 fa1 fa2 fa3
  clear sr cr0 cr1 fr0 fr1
  replace hB := hB.trans (h1.mono hB.size)
  replace ra := Row.below ra h1
  replace rr := Row.below rr h1
  clear h1
  obtain ⟨sa, ca0, ca1, ca2, ca3, fa0, fa1, fa2, fa3⟩ := Row.cells4 ra
  obtain ⟨sr, cr0, cr1, fr0, fr1⟩ := Row.cells2 rr
  go_wp2_with fail
  refine (h2 _ (he.below hB)).mono ?_
  rintro e W3 ⟨rfl, h1⟩
  clear sa ca0 ca1 ca2 ca3 fa0 fa1 fa2 fa3
  clear sr cr0 cr1 fr0 fr1
  replace hB := hB.trans (h1.mono hB.size)
  replace ra := Row.below ra h1
  replace rr := Row.below rr h1
  clear h1
  obtain ⟨sa, ca0, ca1, ca2, ca3, fa0, fa1, fa2, fa3⟩ := Row.cells4 ra
  obtain ⟨sr, cr0, cr1, fr0, fr1⟩ := Row.cells2 rr
  go_wp2_with fail
  refine (h3 _ (he.below hB)).mono ?_
  rintro e W4 ⟨rfl, h1⟩
  clear sa ca0 ca1 ca2 ca3 fa0 fa1 fa2 fa3
  clear sr cr0 cr1 fr0 fr1
  replace hB := hB.trans (h1.mono hB.size)
  replace ra := Row.below ra h1
  replace rr := Row.below rr h1
  clear h1
  obtain ⟨sa, ca0, ca1, ca2, ca3, fa0, fa1, fa2, fa3⟩ := Row.cells4 ra
  obtain ⟨sr, cr0, cr1, fr0, fr1⟩ := Row.cells2 rr
  go_wp2_with fail
  refine (h4 _ (he.below hB)).mono ?_
  rintro e W5 ⟨rfl, h1⟩
  clear sa ca0 ca1 ca2 ca3 fa0 fa1 fa2 fa3
  clear sr cr0 cr1 fr0 fr1
  replace hB := hB.trans (h1.mono hB.size)
  replace ra := Row.below ra h1
  replace rr := Row.below rr h1
  clear h1
  obtain ⟨sa, ca0, ca1, ca2, ca3, fa0, fa1, fa2, fa3⟩ := Row.cells4 ra
  obtain ⟨sr, cr0, cr1, fr0, fr1⟩ := Row.cells2 rr
  go_wp2
  go_ret
  exact ⟨by rw [dc _ rfl]; rfl, hB⟩
/-- Contains, of whatever interval with valid ends. -/
theorem econtains (a : Iv) (r : Rat) (ha : IDig 200 a) (hr : QDig 200 r) (w : World) (he : Env w) : Calls Tryz.prog 23 #[I a, Q r] w (BoolOk (decide (a.lo ≤ r ∧ r ≤ a.hi)) w) := by
  by_cases hl : a.lo ≤ r
  · by_cases ho : a.lo ≤ a.hi
    · rw [show decide (a.lo ≤ r ∧ r ≤ a.hi) = decide (r ≤ a.hi) from decide_eq_decide.2 ⟨fun h => h.2, fun h => ⟨hl, h⟩⟩]
      exact econtains_in a r ha hr w he ho hl
    · rw [decide_eq_false (fun h : a.lo ≤ r ∧ r ≤ a.hi => ho (Rat.le_trans h.1 h.2))]
      exact econtains_inv a r ha hr w he ho
  · rw [decide_eq_false (fun h : a.lo ≤ r ∧ r ≤ a.hi => hl h.1)]
    by_cases ho : a.lo ≤ a.hi
    · exact econtains_low a r ha hr w he ho hl
    · exact econtains_inv a r ha hr w he ho
set_option maxRecDepth 100000 in
set_option maxHeartbeats 4000000 in
theorem econtains_zero (r : Rat) (w : World) : Calls Tryz.prog 23 #[.agg #[.string ⟨#[]⟩, .string ⟨#[]⟩, .string ⟨#[]⟩, .string ⟨#[]⟩], Q r] w (BoolOk (false) w) := by
  have hB : Below w.heap.size w w := Below.refl _ _
  show Calls Tryz.prog 23 #[.agg #[.string ⟨#[]⟩, .string ⟨#[]⟩, .string ⟨#[]⟩, .string ⟨#[]⟩], .agg #[.string (S r.num), .string (S (r.den : Int))]] w _
  go_enter Tryz.func23, Tryz.ntmps23
  go_wp2_with fail
  have sB := hB.size
  refine world_cut (fun X => Below w.heap.size w X ∧ Row X w.heap.size (.cells #[.string ⟨#[]⟩, .string ⟨#[]⟩, .string ⟨#[]⟩, .string ⟨#[]⟩] 29) ∧ Row X (w.heap.size + 1) (.cells #[.string (S r.num), .string (S (r.den : Int))] 26)) ⟨C1_hB, C2, C2⟩ ?_
  clear hB sB
  rintro V1 ⟨hB, ra, rr⟩
  obtain ⟨sa, ca0, ca1, ca2, ca3, fa0, fa1, fa2, fa3⟩ := Row.cells4 ra
  obtain ⟨sr, cr0, cr1, fr0, fr1⟩ := Row.cells2 rr
  refine (evalid_zero _).mono ?_
  rintro e W2 ⟨rfl, h1⟩
  clear sa ca0 ca1 ca2 ca3 fa0 fa1 fa2 fa3
  clear sr cr0 cr1 fr0 fr1
  replace hB := hB.trans (h1.mono hB.size)
  replace ra := Row.below ra h1
  replace rr := Row.below rr h1
  clear h1
  obtain ⟨sa, ca0, ca1, ca2, ca3, fa0, fa1, fa2, fa3⟩ := Row.cells4 ra
  obtain ⟨sr, cr0, cr1, fr0, fr1⟩ := Row.cells2 rr
  go_wp2
  go_ret
  exact ⟨rfl, hB⟩
set_option maxRecDepth 100000 in
set_option maxHeartbeats 4000000 in
theorem ewithin (a b : Iv) (ha : IDig 200 a) (hb : IDig 200 b) (ho : a.Ok) (hs : a.Sub b) (w : World) (he : Env w) : Calls Tryz.prog 17 #[I a, I b] w (BoolOk true w) := by
  have hB : Below w.heap.size w w := Below.refl _ _
  have h1 := fun W (h : Env W) => evalid a ha W h
  have ho2 : a.lo ≤ a.hi := ho
  rw [decide_eq_true ho2] at h1
  have h2 := fun W (h : Env W) => econtains b a.lo hb ha.1 W h
  have h3 := fun W (h : Env W) => econtains b a.hi hb ha.2 W h
  have q2 : decide (b.lo ≤ a.lo ∧ a.lo ≤ b.hi) = true := decide_eq_true ⟨hs.1, Rat.le_trans ho2 hs.2⟩
  rw [q2] at h2
  have q3 : decide (b.lo ≤ a.hi ∧ a.hi ≤ b.hi) = true := decide_eq_true ⟨Rat.le_trans hs.1 ho2, hs.2⟩
  rw [q3] at h3
  show Calls Tryz.prog 17 #[.agg #[.string (S a.lo.num), .string (S (a.lo.den : Int)), .string (S a.hi.num), .string (S (a.hi.den : Int))], .agg #[.string (S b.lo.num), .string (S (b.lo.den : Int)), .string (S b.hi.num), .string (S (b.hi.den : Int))]] w _
  clear hs ho ho2 q2 q3
  go_enter Tryz.func17, Tryz.ntmps17
  go_wp2_with fail
  have sB := hB.size
  refine world_cut (fun X => Below w.heap.size w X ∧ Row X w.heap.size (.cells #[.string (S a.lo.num), .string (S (a.lo.den : Int)), .string (S a.hi.num), .string (S (a.hi.den : Int))] 29) ∧ Row X (w.heap.size + 1) (.cells #[.string (S b.lo.num), .string (S (b.lo.den : Int)), .string (S b.hi.num), .string (S (b.hi.den : Int))] 29)) ⟨C1_hB, C2, C2⟩ ?_
  clear hB sB
  rintro V1 ⟨hB, ra, rb⟩
  obtain ⟨sa, ca0, ca1, ca2, ca3, fa0, fa1, fa2, fa3⟩ := Row.cells4 ra
  obtain ⟨sb, cb0, cb1, cb2, cb3, fb0, fb1, fb2, fb3⟩ := Row.cells4 rb
  refine (h1 _ (he.below hB)).mono ?_
  rintro e W2 ⟨rfl, h1⟩
  clear sa ca0 ca1 ca2 ca3 fa0 fa1 fa2 fa3
  clear sb cb0 cb1 cb2 cb3 fb0 fb1 fb2 fb3
  replace hB := hB.trans (h1.mono hB.size)
  replace ra := Row.below ra h1
  replace rb := Row.below rb h1
  clear h1
  obtain ⟨sa, ca0, ca1, ca2, ca3, fa0, fa1, fa2, fa3⟩ := Row.cells4 ra
  obtain ⟨sb, cb0, cb1, cb2, cb3, fb0, fb1, fb2, fb3⟩ := Row.cells4 rb
  go_wp2_with fail
  refine (h2 _ (he.below hB)).mono ?_
  rintro e W3 ⟨rfl, h1⟩
  clear sa ca0 ca1 ca2 ca3 fa0 fa1 fa2 fa3
  clear sb cb0 cb1 cb2 cb3 fb0 fb1 fb2 fb3
  replace hB := hB.trans (h1.mono hB.size)
  replace ra := Row.below ra h1
  replace rb := Row.below rb h1
  clear h1
  obtain ⟨sa, ca0, ca1, ca2, ca3, fa0, fa1, fa2, fa3⟩ := Row.cells4 ra
  obtain ⟨sb, cb0, cb1, cb2, cb3, fb0, fb1, fb2, fb3⟩ := Row.cells4 rb
  go_wp2_with fail
  refine (h3 _ (he.below hB)).mono ?_
  rintro e W4 ⟨rfl, h1⟩
  clear sa ca0 ca1 ca2 ca3 fa0 fa1 fa2 fa3
  clear sb cb0 cb1 cb2 cb3 fb0 fb1 fb2 fb3
  replace hB := hB.trans (h1.mono hB.size)
  replace ra := Row.below ra h1
  replace rb := Row.below rb h1
  clear h1
  obtain ⟨sa, ca0, ca1, ca2, ca3, fa0, fa1, fa2, fa3⟩ := Row.cells4 ra
  obtain ⟨sb, cb0, cb1, cb2, cb3, fb0, fb1, fb2, fb3⟩ := Row.cells4 rb
  go_wp2
  go_ret
  exact ⟨rfl, hB⟩
theorem Q_zero : Q 0 = .agg #[.string ⟨#[48]⟩, .string ⟨#[49]⟩] := by
  show Value.agg #[.string (S 0), .string (S 1)] = _
  rw [S_zero, S_one]
set_option maxRecDepth 100000 in
set_option maxHeartbeats 4000000 in
theorem ezero (w : World) : Calls Tryz.prog 106 #[] w fun e w' => e = .returned (Q 0) ∧ Below w.heap.size w w' := by
  have hB : Below w.heap.size w w := Below.refl _ _
  rw [Q_zero]
  go_enter Tryz.func106, Tryz.ntmps106
  go_wp2
  have sB := hB.size
  refine post_cut (fun X => Below w.heap.size w X ∧ Row X w.heap.size (.cells #[.string ⟨#[48]⟩, .string ⟨#[49]⟩] 26)) ⟨C1_hB, C2⟩ ?_
  clear hB sB
  rintro V1 ⟨hB, rz⟩
  obtain ⟨sz, cz0, cz1, fz0, fz1⟩ := Row.cells2 rz
  refine bodyPost_ret (v := .agg #[.string ⟨#[48]⟩, .string ⟨#[49]⟩]) ?res rfl ⟨rfl, hB⟩
  case res => simp [results, Tryz.results106, go_sem, cz0, cz1]
end Go.Proofs.YtngohpgkceedeaaGreatDoor
