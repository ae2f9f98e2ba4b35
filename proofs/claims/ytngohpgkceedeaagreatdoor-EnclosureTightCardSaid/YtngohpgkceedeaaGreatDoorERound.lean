/-
  Package enclosure: Round, and Sqrt on a grid.
-/
import Derived.Test.YtngohpgkceedeaaGreatDoorEOps
import Derived.Test.YtngohpgkceedeaaGreatDoorQRound
import Derived.Test.YtngohpgkceedeaaGreatDoorChains
set_option linter.unusedSimpArgs false
set_option linter.unusedVariables false
namespace Go.Proofs.YtngohpgkceedeaaGreatDoor
open Go Go.RowKit Go.Lib Go.Shelf

set_option maxRecDepth 100000 in
set_option maxHeartbeats 4000000 in
theorem eround1 (ba bp j p : Nat) (a : Iv) (da : IDig j a) (hp : p ≤ 30) (hjp : j + p + 1 ≤ 200) (w : World) (he : Env w) (ra : IvRow w ba a) (rp : Row w bp (.cells #[.int .i64 (p : Int)] 3)) :
    Calls Tryz.prog 62 #[.pointer (some ⟨ba, 0, none⟩), .pointer (some ⟨bp, 0, none⟩)] w fun e w' => e = .returned (I (roundI a (TT p))) ∧ Below w.heap.size w w' := by
  have M0 := fun W (h : Env W) => qdown a.lo p da.1 hp hjp W h
  have M1 := fun W (h : Env W) => qup a.hi p da.2 hp hjp W h
  have M2 := fun W => emust (dn a.lo (TT p)) W
  have M3 := fun W => emust (uq a.hi (TT p)) W
  unfold QOk at M0 M1
  unfold QIs at M2 M3
  unfold Q at M0 M1 M2 M3
  unfold I roundI
  simp only
  have KK : ∀ X, IvRow X ba a → Row X bp (.cells #[.int .i64 (p : Int)] 3) → (X.cell? ⟨ba, 0, none⟩ = some (.string (S a.lo.num)) ∧ X.cell? ⟨ba, 1, none⟩ = some (.string (S (a.lo.den : Int))) ∧ X.cell? ⟨ba, 2, none⟩ = some (.string (S a.hi.num)) ∧ X.cell? ⟨ba, 3, none⟩ = some (.string (S (a.hi.den : Int))) ∧ X.cell? ⟨bp, 0, none⟩ = some (.int .i64 (p : Int))) := fun X h1 h2 => ⟨h1.facts.1, h1.facts.2.1, h1.facts.2.2.1, h1.facts.2.2.2, (Row.cells1 h2).2.1⟩
  have sa := ra.1
  have sp := rp.1
  unfold IvRow at *
  clear da hp hjp
  generalize dn a.lo (TT p) = x at *
  generalize uq a.hi (TT p) = y at *
  generalize S a.lo.num = alon at *
  generalize S (a.lo.den : Int) = alod at *
  generalize S a.hi.num = ahin at *
  generalize S (a.hi.den : Int) = ahid at *
  have hB : Below w.heap.size w w := Below.refl _ _
  go_enter Tryz.func62, Tryz.ntmps62
  go_wp2_with fail
  refine wp_cut (fun X => Below w.heap.size w X ∧ Row X ba (.cells #[.string alon, .string alod, .string ahin, .string ahid] 29) ∧ Row X bp (.cells #[.int .i64 (p : Int)] 3) ∧ Row X w.heap.size (.cells #[.string ⟨#[]⟩, .string ⟨#[]⟩, .string ⟨#[]⟩, .string ⟨#[]⟩] 29)) ⟨C1_hB, ra.alloc _, rp.alloc _, C2⟩ ?_
  clear hB ra rp
  rintro V ⟨hB, ra, rp, ro⟩
  obtain ⟨so, co0, co1, co2, co3, fo0, fo1, fo2, fo3⟩ := Row.cells4 ro
  go_region_held3 (fun X => X.cell? ⟨ba, 0, none⟩ = some (.string alon) ∧ X.cell? ⟨ba, 1, none⟩ = some (.string alod) ∧ X.cell? ⟨ba, 2, none⟩ = some (.string ahin) ∧ X.cell? ⟨ba, 3, none⟩ = some (.string ahid) ∧ X.cell? ⟨bp, 0, none⟩ = some (.int .i64 (p : Int))) (first | exact KK _ C3_ra C3_rp) (first
      | (go_at_call 64; with_reducible refine (M0 _ (by first | exact he.below hB | exact he.below hB.drew | exact he.below (below_drewN hB _))).mono ?_; rintro e W ⟨rfl, h1⟩; (try replace h1 := below_of_drew h1); replace hB := hB.trans (h1.mono hB.size); replace ra := Row.below ra h1; replace rp := Row.below rp h1; replace ro := Row.below ro h1; obtain ⟨so, co0, co1, co2, co3, fo0, fo1, fo2, fo3⟩ := Row.cells4 ro)
      | (go_at_call 65; with_reducible refine (M1 _ (by first | exact he.below hB | exact he.below hB.drew | exact he.below (below_drewN hB _))).mono ?_; rintro e W ⟨rfl, h1⟩; (try replace h1 := below_of_drew h1); replace hB := hB.trans (h1.mono hB.size); replace ra := Row.below ra h1; replace rp := Row.below rp h1; replace ro := Row.below ro h1; obtain ⟨so, co0, co1, co2, co3, fo0, fo1, fo2, fo3⟩ := Row.cells4 ro)
      | (go_at_call 63; with_reducible refine (M2 _).mono ?_; rintro e W ⟨rfl, h1⟩; (try replace h1 := below_of_drew h1); replace hB := hB.trans (h1.mono hB.size); replace ra := Row.below ra h1; replace rp := Row.below rp h1; replace ro := Row.below ro h1; obtain ⟨so, co0, co1, co2, co3, fo0, fo1, fo2, fo3⟩ := Row.cells4 ro)
      | (go_at_call 63; with_reducible refine (M3 _).mono ?_; rintro e W ⟨rfl, h1⟩; (try replace h1 := below_of_drew h1); replace hB := hB.trans (h1.mono hB.size); replace ra := Row.below ra h1; replace rp := Row.below rp h1; replace ro := Row.below ro h1; obtain ⟨so, co0, co1, co2, co3, fo0, fo1, fo2, fo3⟩ := Row.cells4 ro))
  go_wp2
  have sB := hB.size
  refine post_cut (fun X => Below w.heap.size w X ∧ Row X w.heap.size (.cells #[.string (S x.num), .string (S (x.den : Int)), .string (S y.num), .string (S (y.den : Int))] 29)) ⟨C1_hB, C3_ro⟩ ?_
  clear ro
  clear so co0 co1 co2 co3 fo0 fo1 fo2 fo3
  clear hB sB
  rintro V1 ⟨hB, ro⟩
  obtain ⟨so, co0, co1, co2, co3, fo0, fo1, fo2, fo3⟩ := Row.cells4 ro
  refine bodyPost_ret (v := .agg #[.string (S x.num), .string (S (x.den : Int)), .string (S y.num), .string (S (y.den : Int))]) ?res rfl ⟨rfl, hB⟩
  case res => simp [results, Tryz.results62, go_sem, co0, co1, co2, co3]
set_option maxRecDepth 100000 in
set_option maxHeartbeats 4000000 in
theorem eroundI {j : Nat} {a : Iv} {p : Nat} (da : IDig j a) (oa : a.Ok) (hp : p ≤ 30) (hjp : j + p + 1 ≤ 200) (w : World) (he : Env w) :
    Calls Tryz.prog 16 #[I a, .int .i64 (p : Int)] w (ivOk (fun v => v = roundI a (TT p)) w) := by
  have egG : ∀ args w, (callFunc 62 args).run Tryz.prog w = .ok (.enter 62 args) w := enters_of Tryz.func62 (by kernel_rfl) rfl
  have egC : ∀ args w, (callFunc 131 args).run Tryz.prog w = .ok (.enter 131 args) w := enters_of Tryz.func131 (by kernel_rfl) rfl
  have hB : Below w.heap.size w w := Below.refl _ _
  show Calls Tryz.prog 16 #[.agg #[.string (S a.lo.num), .string (S (a.lo.den : Int)), .string (S a.hi.num), .string (S (a.hi.den : Int))], .int .i64 (p : Int)] w _
  go_enter Tryz.func16, Tryz.ntmps16
  have hmf : ∀ (fn : Fn) (first cap : Array Value) (w : World), (Instr.makeFunc fn first cap).run Tryz.prog w = .ok (.func fn first cap) w := fun _ _ _ _ => rfl
  go_wp2_with fail
  have sB := hB.size
  refine world_cut (fun X => Below w.heap.size w X ∧ Row X w.heap.size (.cells #[.string (S a.lo.num), .string (S (a.lo.den : Int)), .string (S a.hi.num), .string (S (a.hi.den : Int))] 29) ∧ Row X (w.heap.size + 1) (.cells #[.int .i64 (p : Int)] 3) ∧ Row X (w.heap.size + 1 + 1) (.cells #[.string ⟨#[]⟩, .string ⟨#[]⟩, .string ⟨#[]⟩, .string ⟨#[]⟩] 29) ∧ Row X (w.heap.size + 1 + 1 + 1) (.cells #[.string (S a.lo.num), .string (S (a.lo.den : Int)), .string (S a.hi.num), .string (S (a.hi.den : Int))] 29)) ⟨C1_hB, C2, C2, C2, C2⟩ ?_
  clear hB sB
  rintro V1 ⟨hB, ra, rp, ro, rs⟩
  obtain ⟨sa, ca0, ca1, ca2, ca3, fa0, fa1, fa2, fa3⟩ := Row.cells4 ra
  obtain ⟨sp, cp0, fp0⟩ := Row.cells1 rp
  obtain ⟨so, co0, co1, co2, co3, fo0, fo1, fo2, fo3⟩ := Row.cells4 ro
  obtain ⟨ss, cs0, cs1, cs2, cs3, fs0, fs1, fs2, fs3⟩ := Row.cells4 rs
  refine (ivcompute_ok 62 _ _ 1 (fun v => v = roundI a (TT p)) _ egG (fun W h => contains1 131 egC _ a W (Row.below rs h) (fun W2 h2 => ivbad a (da.mono (by omega)) oa W2 ((he.below (hB.trans (h.mono hB.size))).below h2))) (fun W h => (eround1 _ _ j p a da hp hjp W (he.below (hB.trans (h.mono hB.size))) (Row.below ra h) (Row.below rp h)).mono fun e w' hh => ⟨_, rfl, hh.1, hh.2⟩)).mono ?_
  rintro e W1 ⟨v, pv, rfl, h1⟩
  have PV := Lib.hid pv
  clear pv
  clear sa ca0 ca1 ca2 ca3 fa0 fa1 fa2 fa3
  clear sp cp0 fp0
  clear so co0 co1 co2 co3 fo0 fo1 fo2 fo3
  clear ss cs0 cs1 cs2 cs3 fs0 fs1 fs2 fs3
  replace hB := hB.trans (h1.mono hB.size)
  replace ra := Row.below ra h1
  replace rp := Row.below rp h1
  replace ro := Row.below ro h1
  replace rs := Row.below rs h1
  clear h1
  obtain ⟨sa, ca0, ca1, ca2, ca3, fa0, fa1, fa2, fa3⟩ := Row.cells4 ra
  obtain ⟨sp, cp0, fp0⟩ := Row.cells1 rp
  obtain ⟨so, co0, co1, co2, co3, fo0, fo1, fo2, fo3⟩ := Row.cells4 ro
  obtain ⟨ss, cs0, cs1, cs2, cs3, fs0, fs1, fs2, fs3⟩ := Row.cells4 rs
  clear hmf egG egC
  unfold I
  go_wp2
  have sB := hB.size
  refine post_cut (fun X => Below w.heap.size w X ∧ Row X w.heap.size (.cells #[.string (S a.lo.num), .string (S (a.lo.den : Int)), .string (S a.hi.num), .string (S (a.hi.den : Int))] 29) ∧ Row X (w.heap.size + 1) (.cells #[.int .i64 (p : Int)] 3) ∧ Row X (w.heap.size + 1 + 1) (.cells #[.string (S v.lo.num), .string (S (v.lo.den : Int)), .string (S v.hi.num), .string (S (v.hi.den : Int))] 29) ∧ Row X (w.heap.size + 1 + 1 + 1) (.cells #[.string (S a.lo.num), .string (S (a.lo.den : Int)), .string (S a.hi.num), .string (S (a.hi.den : Int))] 29)) ⟨C1_hB, C3_ra, C3_rp, C3_ro, C3_rs⟩ ?_
  clear ra
  clear sa ca0 ca1 ca2 ca3 fa0 fa1 fa2 fa3
  clear rp
  clear sp cp0 fp0
  clear ro
  clear so co0 co1 co2 co3 fo0 fo1 fo2 fo3
  clear rs
  clear ss cs0 cs1 cs2 cs3 fs0 fs1 fs2 fs3
  clear hB sB
  rintro V2 ⟨hB, ra, rp, ro, rs⟩
  obtain ⟨sa, ca0, ca1, ca2, ca3, fa0, fa1, fa2, fa3⟩ := Row.cells4 ra
  obtain ⟨sp, cp0, fp0⟩ := Row.cells1 rp
  obtain ⟨so, co0, co1, co2, co3, fo0, fo1, fo2, fo3⟩ := Row.cells4 ro
  obtain ⟨ss, cs0, cs1, cs2, cs3, fs0, fs1, fs2, fs3⟩ := Row.cells4 rs
  refine bodyPost_ret (v := .tuple #[.agg #[.string (S v.lo.num), .string (S (v.lo.den : Int)), .string (S v.hi.num), .string (S (v.hi.den : Int))], .int .i64 0]) ?res rfl ⟨_, PV.out, rfl, hB⟩
  case res => simp [results, Tryz.results16, go_sem, co0, co1, co2, co3]
set_option maxRecDepth 100000 in
set_option maxHeartbeats 4000000 in
theorem emusts (s : ByteArray) (w : World) : Calls Tryz.prog 110 #[.string s, .int .i64 0] w fun e w' => e = .returned (.string s) ∧ Below w.heap.size w w' := by
  have hB : Below w.heap.size w w := Below.refl _ _
  go_enter Tryz.func110, Tryz.ntmps110
  go_wp2_with fail
  refine (echeck_true _).mono ?_
  rintro e W1 ⟨rfl, h1⟩
  replace hB := hB.trans (h1.mono hB.size)
  clear h1
  go_wp2
  go_ret
  exact ⟨rfl, hB⟩
set_option maxRecDepth 100000 in
set_option maxHeartbeats 4000000 in
theorem egrid (p : Nat) (hp : p ≤ 30) (w : World) : Calls Tryz.prog 108 #[.int .i64 (p : Int)] w fun e w' => e = .returned (.agg #[.int .i64 (p : Int), .string (S (TT p))]) ∧ Below w.heap.size w w' := by
  have hB : Below w.heap.size w w := Below.refl _ _
  have d1 : decide ((0 : Int) ≤ (p : Int)) = true := decide_eq_true (by omega)
  have d2 : decide ((p : Int) ≤ 30) = true := decide_eq_true (by omega)
  have g1 : (0 : Int) ≤ (p : Int) := by omega
  have g2 : (p : Int) ≤ 30 := by omega
  have RP := fun W => Tryz.strings_Repeat ⟨#[48]⟩ p W (by omega) (by simp [ByteArray.size]; omega)
  have RPL := Lib.hid (tens_S p)
  go_enter Tryz.func108, Tryz.ntmps108
  go_wp2_with fail
  have sB := hB.size
  refine world_cut (fun X => Below w.heap.size w X ∧ Row X w.heap.size (.cells #[.int .i64 0, .string ⟨#[]⟩] 127)) ⟨C1_hB, C2⟩ ?_
  clear hB sB
  rintro V1 ⟨hB, ro⟩
  obtain ⟨so, co0, co1, fo0, fo1⟩ := Row.cells2 ro
  refine (echeck_true _).mono ?_
  rintro e W2 ⟨rfl, h1⟩
  clear so co0 co1 fo0 fo1
  replace hB := hB.trans (h1.mono hB.size)
  replace ro := Row.below ro h1
  clear h1
  obtain ⟨so, co0, co1, fo0, fo1⟩ := Row.cells2 ro
  go_wp2_with fail
  refine (RP _).mono ?_
  rintro e W2 ⟨rfl, h1⟩
  clear so co0 co1 fo0 fo1
  replace hB := hB.trans (h1.mono hB.size)
  replace ro := Row.below ro h1
  clear h1
  obtain ⟨so, co0, co1, fo0, fo1⟩ := Row.cells2 ro
  obtain ⟨z0, hz0⟩ : ∃ x : ByteArray, x = ⟨(Lib.repeatL [48] p).toArray⟩ := ⟨_, rfl⟩
  rw [← hz0]
  have RR : ((⟨#[49]⟩ : ByteArray) ++ z0) = S (TT p) := by rw [hz0]; exact RPL.out
  have zs : z0.size ≤ 30 := by rw [hz0, repeat_zeros]; simp [ByteArray.size]; omega
  clear hz0
  go_wp2
  have sB := hB.size
  refine post_cut (fun X => Below w.heap.size w X ∧ Row X w.heap.size (.cells #[.int .i64 (p : Int), .string (S (TT p))] 127)) ⟨C1_hB, C3_ro⟩ ?_
  clear ro
  clear so co0 co1 fo0 fo1
  clear hB sB
  rintro V3 ⟨hB, ro⟩
  obtain ⟨so, co0, co1, fo0, fo1⟩ := Row.cells2 ro
  refine bodyPost_ret (v := .agg #[.int .i64 (p : Int), .string (S (TT p))]) ?res rfl ⟨rfl, hB⟩
  case res => simp [results, Tryz.results108, go_sem, co0, co1]
end Go.Proofs.YtngohpgkceedeaaGreatDoor
