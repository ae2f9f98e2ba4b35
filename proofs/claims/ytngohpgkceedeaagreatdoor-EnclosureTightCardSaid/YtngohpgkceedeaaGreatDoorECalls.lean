/-
  The laws' calls: the results of the eight operations, in two slices of the call's own.
-/
import Derived.Test.YtngohpgkceedeaaGreatDoorECallsDef
import Derived.Maps.AppendAt
import Derived.Deep.AppendLies
import Derived.WalkMore
import Derived.Deep.CutBlock
import Derived.Deep.DeepCutAuto
set_option linter.unusedSimpArgs false
set_option linter.unusedVariables false
namespace Go.Proofs.YtngohpgkceedeaaGreatDoor
open Go Go.RowKit Go.Lib Go.Shelf

theorem own_drewN' {w : World} {base : Nat} {e : TypeId} {size : Nat} {v : Value} {n : Nat} {xs : List Value} (h : w.ownsRow base e size v n xs) (k : Nat) : (w.drewN k).ownsRow base e size v n xs := h
theorem own_drew' {w : World} {base : Nat} {e : TypeId} {size : Nat} {v : Value} {n : Nat} {xs : List Value} (h : w.ownsRow base e size v n xs) : (w.drew).ownsRow base e size v n xs := h
theorem own_ge' {w : World} {base : Nat} {e : TypeId} {size : Nat} {v : Value} {n : Nat} {xs : List Value} (h : w.ownsRow base e size v n xs) : ∀ k, v.ownBlock = some k → base ≤ k := by
  intro k hk
  rcases h.2 with ⟨rfl, _⟩ | ⟨g, cap, cur, rfl, hb, _⟩
  · simp [Value.ownBlock] at hk
  · simp [Value.ownBlock] at hk; omega
theorem own_set4 {w : World} {base : Nat} {e : TypeId} {size : Nat} {v : Value} {n : Nat} {xs : List Value} {b : Nat} (h : w.ownsRow base e size v n xs) (hb : v.ownBlock ≠ some b) (u0 u1 u2 u3 : Value) :
    ((((w.setCell ⟨b, 0, none⟩ u0).setCell ⟨b, 1, none⟩ u1).setCell ⟨b, 2, none⟩ u2).setCell ⟨b, 3, none⟩ u3).ownsRow base e size v n xs := own_set (own_set (own_set (own_set h hb _ _) hb _ _) hb _ _) hb _ _
theorem own_ne_block {w : World} {base : Nat} {e t : TypeId} {size : Nat} {v : Value} {n b : Nat} {xs : List Value} {vs : Array Value} (h : w.ownsRow base e size v n xs) (hb : w.heap.size ≤ b) : v.ownBlock ≠ some b := own_lt h hb
set_option maxRecDepth 100000 in
set_option maxHeartbeats 16000000 in
theorem ecalls_walk {a0 : Addr} (a b : Iv) (p : Nat)
    (M0 : ∀ W, EnvE a0 W → Calls Tryz.prog 75 #[.agg #[.string (S a.lo.num), .string (S (a.lo.den : Int)), .string (S a.hi.num), .string (S (a.hi.den : Int))], .agg #[.string (S b.lo.num), .string (S (b.lo.den : Int)), .string (S b.hi.num), .string (S (b.hi.den : Int))]] W (opIs 0 a b (TT p) W))
    (M1 : ∀ W, EnvE a0 W → Calls Tryz.prog 76 #[.agg #[.string (S a.lo.num), .string (S (a.lo.den : Int)), .string (S a.hi.num), .string (S (a.hi.den : Int))], .agg #[.string (S b.lo.num), .string (S (b.lo.den : Int)), .string (S b.hi.num), .string (S (b.hi.den : Int))]] W (opIs 1 a b (TT p) W))
    (M2 : ∀ W, EnvE a0 W → Calls Tryz.prog 49 #[.agg #[.string (S a.lo.num), .string (S (a.lo.den : Int)), .string (S a.hi.num), .string (S (a.hi.den : Int))], .agg #[.string (S b.lo.num), .string (S (b.lo.den : Int)), .string (S b.hi.num), .string (S (b.hi.den : Int))]] W (opIs 2 a b (TT p) W))
    (M3 : ∀ W, EnvE a0 W → Calls Tryz.prog 51 #[.agg #[.string (S a.lo.num), .string (S (a.lo.den : Int)), .string (S a.hi.num), .string (S (a.hi.den : Int))], .agg #[.string (S b.lo.num), .string (S (b.lo.den : Int)), .string (S b.hi.num), .string (S (b.hi.den : Int))]] W (opIs 3 a b (TT p) W))
    (M4 : ∀ W, EnvE a0 W → Calls Tryz.prog 77 #[.agg #[.string (S a.lo.num), .string (S (a.lo.den : Int)), .string (S a.hi.num), .string (S (a.hi.den : Int))], .agg #[.string (S b.lo.num), .string (S (b.lo.den : Int)), .string (S b.hi.num), .string (S (b.hi.den : Int))]] W (opIs 4 a b (TT p) W))
    (M5 : ∀ W, EnvE a0 W → Calls Tryz.prog 53 #[.agg #[.string (S a.lo.num), .string (S (a.lo.den : Int)), .string (S a.hi.num), .string (S (a.hi.den : Int))], .agg #[.string (S b.lo.num), .string (S (b.lo.den : Int)), .string (S b.hi.num), .string (S (b.hi.den : Int))]] W (opIs 5 a b (TT p) W))
    (M6 : ∀ W, EnvE a0 W → Calls Tryz.prog 52 #[.agg #[.string (S a.lo.num), .string (S (a.lo.den : Int)), .string (S a.hi.num), .string (S (a.hi.den : Int))], .int .i64 (p : Int)] W (opIs 6 a b (TT p) W))
    (M7 : ∀ W, EnvE a0 W → Calls Tryz.prog 16 #[.agg #[.string (S a.lo.num), .string (S (a.lo.den : Int)), .string (S a.hi.num), .string (S (a.hi.den : Int))], .int .i64 (p : Int)] W (opIs 7 a b (TT p) W))
    (w : World) (he : EnvE a0 w) : Calls Tryz.prog 22 #[I a, I b, .int .i64 (p : Int)] w (callsOk a b (TT p) w) := by
  have hB : Below w.heap.size w w := Below.refl _ _
  obtain ⟨i0, hi, hz0, hz1, hz2⟩ := info_parts intervalInfo
  obtain ⟨e0, he0, hy0, hy1, hy2⟩ := info_parts errnoInfo
  unfold I
  go_enter Tryz.func22, Tryz.ntmps22
  go_wp2_with fail
  have sB := hB.size
  refine wp_cut (fun X => Below w.heap.size w X ∧ Row X w.heap.size (.cells #[.string (S a.lo.num), .string (S (a.lo.den : Int)), .string (S a.hi.num), .string (S (a.hi.den : Int))] 29) ∧ Row X (w.heap.size + 1) (.cells #[.string (S b.lo.num), .string (S (b.lo.den : Int)), .string (S b.hi.num), .string (S (b.hi.den : Int))] 29)) ⟨(by repeat (first | (with_reducible exact hB) | (with_reducible exact Below.refl _ _) | (with_reducible refine Below.drew ?_) | (with_reducible refine below_drewN ?_ _) | (with_reducible refine Below.alloc ?_ (by first | omega | (simp; done) | (simp; omega)) _) | (with_reducible refine Below.setCell ?_ (by first | omega | (simp; done) | (simp; omega)) _))), (by repeat (first | (with_reducible exact row_new' (by first | omega | (simp; done) | (simp; omega))) | (with_reducible refine Row.drew ?_) | (with_reducible refine Row.drewN ?_ _) | (with_reducible refine Row.alloc ?_ _) | (with_reducible apply Row.set4) | (with_reducible apply Row.set4a) | (with_reducible apply Row.set4b) | (with_reducible apply Row.set2) | (with_reducible apply Row.set1) | (with_reducible refine Row.set_other ?_ _ (by first | omega | (simp; done) | (simp; omega))))), (by repeat (first | (with_reducible exact row_new' (by first | omega | (simp; done) | (simp; omega))) | (with_reducible refine Row.drew ?_) | (with_reducible refine Row.drewN ?_ _) | (with_reducible refine Row.alloc ?_ _) | (with_reducible apply Row.set4) | (with_reducible apply Row.set4a) | (with_reducible apply Row.set4b) | (with_reducible apply Row.set2) | (with_reducible apply Row.set1) | (with_reducible refine Row.set_other ?_ _ (by first | omega | (simp; done) | (simp; omega)))))⟩ ?_
  clear hB sB
  rintro V1 ⟨hB, ra, rb⟩
  obtain ⟨sa, ca0, ca1, ca2, ca3, fa0, fa1, fa2, fa3⟩ := Row.cells4 ra
  obtain ⟨sb, cb0, cb1, cb2, cb3, fb0, fb1, fb2, fb3⟩ := Row.cells4 rb
  have hL2 : w.heap.size + 1 + 1 ≤ V1.heap.size := by have := rb.1; omega
  go_loopw [8, 9, 10] (fun v8 v9 v10 wr => ∃ (i : Nat) (os : List (Option Iv)) (vo ve : Value), v8 = vo ∧ v9 = ve ∧ v10 = .int .i64 (i : Int) ∧ i ≤ 8 ∧ os.length = i ∧ Hid (Outs a b (TT p) os) ∧ wr.ownsRow (w.heap.size + 1 + 1) 29 4 vo i (oCells os) ∧ wr.ownsRow (w.heap.size + 1 + 1) 31 1 ve i (oErrs os) ∧ Below (w.heap.size + 1 + 1) V1 wr) (fun _ _ v10 _ => (8 - intOf v10).toNat)
  case atStart => exact ⟨0, [], _, _, rfl, rfl, rfl, by omega, rfl, Lib.hid (fun k o h => by simp at h), ⟨rfl, .inl ⟨rfl, rfl⟩⟩, ⟨rfl, .inl ⟨rfl, rfl⟩⟩, Below.refl _ _⟩
  case round =>
    obtain ⟨i, os, vo, ve, rfl, rfl, rfl, hi8, hl, ho, hown, hown2, hL⟩ := hrel
    clear sa ca0 ca1 ca2 ca3 fa0 fa1 fa2 fa3 sb cb0 cb1 cb2 cb3 fb0 fb1 fb2 fb3
    have ra := row_n ra (show w.heap.size < w.heap.size + 1 + 1 by omega) hL
    have rb := row_n rb (show w.heap.size + 1 < w.heap.size + 1 + 1 by omega) hL
    have hB := hB.trans (hL.mono (by omega))
    have hwr : w.heap.size + 1 + 1 ≤ wr.heap.size := Nat.le_trans hL2 hL.size
    have nx1 : u8.ownBlock ≠ some wr.heap.size := own_lt hown (Nat.le_refl _)
    have nx2 : u9.ownBlock ≠ some wr.heap.size := own_lt hown2 (Nat.le_refl _)
    rcases Nat.lt_or_ge i 8 with hi7 | hi7
    · go_upto_block 2 with fail
      obtain ⟨sa, ca0, ca1, ca2, ca3, fa0, fa1, fa2, fa3⟩ := Row.cells4 ra
      obtain ⟨sb, cb0, cb1, cb2, cb3, fb0, fb1, fb2, fb3⟩ := Row.cells4 rb
      have sB := hB.size
      refine wp_cut (fun X => Below w.heap.size w X ∧ Row X w.heap.size (.cells #[.string (S a.lo.num), .string (S (a.lo.den : Int)), .string (S a.hi.num), .string (S (a.hi.den : Int))] 29) ∧ Row X (w.heap.size + 1) (.cells #[.string (S b.lo.num), .string (S (b.lo.den : Int)), .string (S b.hi.num), .string (S (b.hi.den : Int))] 29) ∧ Row X wr.heap.size (.cells #[.string ⟨#[]⟩, .string ⟨#[]⟩, .string ⟨#[]⟩, .string ⟨#[]⟩] 29) ∧ X.ownsRow (w.heap.size + 1 + 1) 29 4 u8 i (oCells os) ∧ X.ownsRow (w.heap.size + 1 + 1) 31 1 u9 i (oErrs os) ∧ Below (w.heap.size + 1 + 1) V1 X) ⟨(by repeat (first | (with_reducible exact hB) | (with_reducible exact Below.refl _ _) | (with_reducible refine Below.drew ?_) | (with_reducible refine below_drewN ?_ _) | (with_reducible refine Below.alloc ?_ (by first | omega | (simp; done) | (simp; omega)) _) | (with_reducible refine Below.setCell ?_ (by first | omega | (simp; done) | (simp; omega)) _))), (by repeat (first | (with_reducible exact ra) | (with_reducible exact row_new' (by first | omega | (simp; done) | (simp; omega))) | (with_reducible refine Row.drew ?_) | (with_reducible refine Row.drewN ?_ _) | (with_reducible refine Row.alloc ?_ _) | (with_reducible apply Row.set4) | (with_reducible apply Row.set4a) | (with_reducible apply Row.set4b) | (with_reducible apply Row.set2) | (with_reducible apply Row.set1) | (with_reducible refine Row.set_other ?_ _ (by first | omega | (simp; done) | (simp; omega))))), (by repeat (first | (with_reducible exact rb) | (with_reducible exact row_new' (by first | omega | (simp; done) | (simp; omega))) | (with_reducible refine Row.drew ?_) | (with_reducible refine Row.drewN ?_ _) | (with_reducible refine Row.alloc ?_ _) | (with_reducible apply Row.set4) | (with_reducible apply Row.set4a) | (with_reducible apply Row.set4b) | (with_reducible apply Row.set2) | (with_reducible apply Row.set1) | (with_reducible refine Row.set_other ?_ _ (by first | omega | (simp; done) | (simp; omega))))), (by repeat (first | (with_reducible exact row_new' (by first | omega | (simp; done) | (simp; omega))) | (with_reducible refine Row.drew ?_) | (with_reducible refine Row.drewN ?_ _) | (with_reducible refine Row.alloc ?_ _) | (with_reducible apply Row.set4) | (with_reducible apply Row.set4a) | (with_reducible apply Row.set4b) | (with_reducible apply Row.set2) | (with_reducible apply Row.set1) | (with_reducible refine Row.set_other ?_ _ (by first | omega | (simp; done) | (simp; omega))))), (by repeat (first | (with_reducible exact hown) | (with_reducible refine own_set4 ?_ nx1 _ _ _ _) | (with_reducible refine World.ownsRow.alloc ?_ _) | (with_reducible refine own_drewN' ?_ _) | (with_reducible refine own_drew' ?_))), (by repeat (first | (with_reducible exact hown2) | (with_reducible refine own_set4 ?_ nx2 _ _ _ _) | (with_reducible refine World.ownsRow.alloc ?_ _) | (with_reducible refine own_drewN' ?_ _) | (with_reducible refine own_drew' ?_))), (by repeat (first | (with_reducible exact hL) | (with_reducible refine Below.drew ?_) | (with_reducible refine below_drewN ?_ _) | (with_reducible refine Below.alloc ?_ (by first | omega | (simp; done) | (simp; omega)) _) | (with_reducible refine Below.setCell ?_ (by first | omega | (simp; done) | (simp; omega)) _)))⟩ ?_
      clear ra
      clear sa ca0 ca1 ca2 ca3 fa0 fa1 fa2 fa3
      clear rb
      clear sb cb0 cb1 cb2 cb3 fb0 fb1 fb2 fb3
      clear hB sB
      rintro V2 ⟨hB, ra, rb, rx, hown, hown2, hL⟩
      obtain ⟨sa, ca0, ca1, ca2, ca3, fa0, fa1, fa2, fa3⟩ := Row.cells4 ra
      obtain ⟨sb, cb0, cb1, cb2, cb3, fb0, fb1, fb2, fb3⟩ := Row.cells4 rb
      obtain ⟨sx, cx0, cx1, cx2, cx3, fx0, fx1, fx2, fx3⟩ := Row.cells4 rx
      go_cut [11, 12] (fun s11 s12 W => ∃ o, OpRes i a b (TT p) o ∧ s11 = .pointer (some ⟨wr.heap.size, 0, none⟩) ∧ s12 = .int .i64 (oE o) ∧ Row W wr.heap.size (.cells #[.string (oS1 o), .string (oS2 o), .string (oS3 o), .string (oS4 o)] 29) ∧ W.ownsRow (w.heap.size + 1 + 1) 29 4 u8 i (oCells os) ∧ W.ownsRow (w.heap.size + 1 + 1) 31 1 u9 i (oErrs os) ∧ Below (w.heap.size + 1 + 1) V1 W)
      case first =>
        clear ho
        obtain rfl | rfl | rfl | rfl | rfl | rfl | rfl | rfl : i = 0 ∨ i = 1 ∨ i = 2 ∨ i = 3 ∨ i = 4 ∨ i = 5 ∨ i = 6 ∨ i = 7 := by omega
        · go_wp2_with fail
          refine (M0 _ (he.below hB)).mono ?_
          rintro e W1 ⟨o, hk, rfl, h1⟩
          have hown := own_below hown h1
          have hown2 := own_below hown2 h1
          have hL := hL.trans (h1.mono (by have := rx.1; omega))
          clear sa ca0 ca1 ca2 ca3 fa0 fa1 fa2 fa3
          clear sb cb0 cb1 cb2 cb3 fb0 fb1 fb2 fb3
          clear sx cx0 cx1 cx2 cx3 fx0 fx1 fx2 fx3
          replace hB := hB.trans (h1.mono hB.size)
          replace ra := Row.below ra h1
          replace rb := Row.below rb h1
          replace rx := Row.below rx h1
          clear h1
          obtain ⟨sa, ca0, ca1, ca2, ca3, fa0, fa1, fa2, fa3⟩ := Row.cells4 ra
          obtain ⟨sb, cb0, cb1, cb2, cb3, fb0, fb1, fb2, fb3⟩ := Row.cells4 rb
          obtain ⟨sx, cx0, cx1, cx2, cx3, fx0, fx1, fx2, fx3⟩ := Row.cells4 rx
          go_wp2
          go_meet
          case rel => exact ⟨o, hk, rfl, rfl, (by repeat (first | (with_reducible exact rx) | (with_reducible exact row_new' (by first | omega | (simp; done) | (simp; omega))) | (with_reducible refine Row.drew ?_) | (with_reducible refine Row.drewN ?_ _) | (with_reducible refine Row.alloc ?_ _) | (with_reducible apply Row.set4) | (with_reducible apply Row.set4a) | (with_reducible apply Row.set4b) | (with_reducible apply Row.set2) | (with_reducible apply Row.set1) | (with_reducible refine Row.set_other ?_ _ (by first | omega | (simp; done) | (simp; omega))))), (by repeat (first | (with_reducible exact hown) | (with_reducible refine own_set4 ?_ nx1 _ _ _ _) | (with_reducible refine World.ownsRow.alloc ?_ _) | (with_reducible refine own_drewN' ?_ _) | (with_reducible refine own_drew' ?_))), (by repeat (first | (with_reducible exact hown2) | (with_reducible refine own_set4 ?_ nx2 _ _ _ _) | (with_reducible refine World.ownsRow.alloc ?_ _) | (with_reducible refine own_drewN' ?_ _) | (with_reducible refine own_drew' ?_))), (by repeat (first | (with_reducible exact hL) | (with_reducible refine Below.drew ?_) | (with_reducible refine below_drewN ?_ _) | (with_reducible refine Below.alloc ?_ (by first | omega | (simp; done) | (simp; omega)) _) | (with_reducible refine Below.setCell ?_ (by first | omega | (simp; done) | (simp; omega)) _)))⟩
        · go_wp2_with fail
          refine (M1 _ (he.below hB)).mono ?_
          rintro e W1 ⟨o, hk, rfl, h1⟩
          have hown := own_below hown h1
          have hown2 := own_below hown2 h1
          have hL := hL.trans (h1.mono (by have := rx.1; omega))
          clear sa ca0 ca1 ca2 ca3 fa0 fa1 fa2 fa3
          clear sb cb0 cb1 cb2 cb3 fb0 fb1 fb2 fb3
          clear sx cx0 cx1 cx2 cx3 fx0 fx1 fx2 fx3
          replace hB := hB.trans (h1.mono hB.size)
          replace ra := Row.below ra h1
          replace rb := Row.below rb h1
          replace rx := Row.below rx h1
          clear h1
          obtain ⟨sa, ca0, ca1, ca2, ca3, fa0, fa1, fa2, fa3⟩ := Row.cells4 ra
          obtain ⟨sb, cb0, cb1, cb2, cb3, fb0, fb1, fb2, fb3⟩ := Row.cells4 rb
          obtain ⟨sx, cx0, cx1, cx2, cx3, fx0, fx1, fx2, fx3⟩ := Row.cells4 rx
          go_wp2
          go_meet
          case rel => exact ⟨o, hk, rfl, rfl, (by repeat (first | (with_reducible exact rx) | (with_reducible exact row_new' (by first | omega | (simp; done) | (simp; omega))) | (with_reducible refine Row.drew ?_) | (with_reducible refine Row.drewN ?_ _) | (with_reducible refine Row.alloc ?_ _) | (with_reducible apply Row.set4) | (with_reducible apply Row.set4a) | (with_reducible apply Row.set4b) | (with_reducible apply Row.set2) | (with_reducible apply Row.set1) | (with_reducible refine Row.set_other ?_ _ (by first | omega | (simp; done) | (simp; omega))))), (by repeat (first | (with_reducible exact hown) | (with_reducible refine own_set4 ?_ nx1 _ _ _ _) | (with_reducible refine World.ownsRow.alloc ?_ _) | (with_reducible refine own_drewN' ?_ _) | (with_reducible refine own_drew' ?_))), (by repeat (first | (with_reducible exact hown2) | (with_reducible refine own_set4 ?_ nx2 _ _ _ _) | (with_reducible refine World.ownsRow.alloc ?_ _) | (with_reducible refine own_drewN' ?_ _) | (with_reducible refine own_drew' ?_))), (by repeat (first | (with_reducible exact hL) | (with_reducible refine Below.drew ?_) | (with_reducible refine below_drewN ?_ _) | (with_reducible refine Below.alloc ?_ (by first | omega | (simp; done) | (simp; omega)) _) | (with_reducible refine Below.setCell ?_ (by first | omega | (simp; done) | (simp; omega)) _)))⟩
        · go_wp2_with fail
          refine (M2 _ (he.below hB)).mono ?_
          rintro e W1 ⟨o, hk, rfl, h1⟩
          have hown := own_below hown h1
          have hown2 := own_below hown2 h1
          have hL := hL.trans (h1.mono (by have := rx.1; omega))
          clear sa ca0 ca1 ca2 ca3 fa0 fa1 fa2 fa3
          clear sb cb0 cb1 cb2 cb3 fb0 fb1 fb2 fb3
          clear sx cx0 cx1 cx2 cx3 fx0 fx1 fx2 fx3
          replace hB := hB.trans (h1.mono hB.size)
          replace ra := Row.below ra h1
          replace rb := Row.below rb h1
          replace rx := Row.below rx h1
          clear h1
          obtain ⟨sa, ca0, ca1, ca2, ca3, fa0, fa1, fa2, fa3⟩ := Row.cells4 ra
          obtain ⟨sb, cb0, cb1, cb2, cb3, fb0, fb1, fb2, fb3⟩ := Row.cells4 rb
          obtain ⟨sx, cx0, cx1, cx2, cx3, fx0, fx1, fx2, fx3⟩ := Row.cells4 rx
          go_wp2
          go_meet
          case rel => exact ⟨o, hk, rfl, rfl, (by repeat (first | (with_reducible exact rx) | (with_reducible exact row_new' (by first | omega | (simp; done) | (simp; omega))) | (with_reducible refine Row.drew ?_) | (with_reducible refine Row.drewN ?_ _) | (with_reducible refine Row.alloc ?_ _) | (with_reducible apply Row.set4) | (with_reducible apply Row.set4a) | (with_reducible apply Row.set4b) | (with_reducible apply Row.set2) | (with_reducible apply Row.set1) | (with_reducible refine Row.set_other ?_ _ (by first | omega | (simp; done) | (simp; omega))))), (by repeat (first | (with_reducible exact hown) | (with_reducible refine own_set4 ?_ nx1 _ _ _ _) | (with_reducible refine World.ownsRow.alloc ?_ _) | (with_reducible refine own_drewN' ?_ _) | (with_reducible refine own_drew' ?_))), (by repeat (first | (with_reducible exact hown2) | (with_reducible refine own_set4 ?_ nx2 _ _ _ _) | (with_reducible refine World.ownsRow.alloc ?_ _) | (with_reducible refine own_drewN' ?_ _) | (with_reducible refine own_drew' ?_))), (by repeat (first | (with_reducible exact hL) | (with_reducible refine Below.drew ?_) | (with_reducible refine below_drewN ?_ _) | (with_reducible refine Below.alloc ?_ (by first | omega | (simp; done) | (simp; omega)) _) | (with_reducible refine Below.setCell ?_ (by first | omega | (simp; done) | (simp; omega)) _)))⟩
        · go_wp2_with fail
          refine (M3 _ (he.below hB)).mono ?_
          rintro e W1 ⟨o, hk, rfl, h1⟩
          have hown := own_below hown h1
          have hown2 := own_below hown2 h1
          have hL := hL.trans (h1.mono (by have := rx.1; omega))
          clear sa ca0 ca1 ca2 ca3 fa0 fa1 fa2 fa3
          clear sb cb0 cb1 cb2 cb3 fb0 fb1 fb2 fb3
          clear sx cx0 cx1 cx2 cx3 fx0 fx1 fx2 fx3
          replace hB := hB.trans (h1.mono hB.size)
          replace ra := Row.below ra h1
          replace rb := Row.below rb h1
          replace rx := Row.below rx h1
          clear h1
          obtain ⟨sa, ca0, ca1, ca2, ca3, fa0, fa1, fa2, fa3⟩ := Row.cells4 ra
          obtain ⟨sb, cb0, cb1, cb2, cb3, fb0, fb1, fb2, fb3⟩ := Row.cells4 rb
          obtain ⟨sx, cx0, cx1, cx2, cx3, fx0, fx1, fx2, fx3⟩ := Row.cells4 rx
          go_wp2
          go_meet
          case rel => exact ⟨o, hk, rfl, rfl, (by repeat (first | (with_reducible exact rx) | (with_reducible exact row_new' (by first | omega | (simp; done) | (simp; omega))) | (with_reducible refine Row.drew ?_) | (with_reducible refine Row.drewN ?_ _) | (with_reducible refine Row.alloc ?_ _) | (with_reducible apply Row.set4) | (with_reducible apply Row.set4a) | (with_reducible apply Row.set4b) | (with_reducible apply Row.set2) | (with_reducible apply Row.set1) | (with_reducible refine Row.set_other ?_ _ (by first | omega | (simp; done) | (simp; omega))))), (by repeat (first | (with_reducible exact hown) | (with_reducible refine own_set4 ?_ nx1 _ _ _ _) | (with_reducible refine World.ownsRow.alloc ?_ _) | (with_reducible refine own_drewN' ?_ _) | (with_reducible refine own_drew' ?_))), (by repeat (first | (with_reducible exact hown2) | (with_reducible refine own_set4 ?_ nx2 _ _ _ _) | (with_reducible refine World.ownsRow.alloc ?_ _) | (with_reducible refine own_drewN' ?_ _) | (with_reducible refine own_drew' ?_))), (by repeat (first | (with_reducible exact hL) | (with_reducible refine Below.drew ?_) | (with_reducible refine below_drewN ?_ _) | (with_reducible refine Below.alloc ?_ (by first | omega | (simp; done) | (simp; omega)) _) | (with_reducible refine Below.setCell ?_ (by first | omega | (simp; done) | (simp; omega)) _)))⟩
        · go_wp2_with fail
          refine (M4 _ (he.below hB)).mono ?_
          rintro e W1 ⟨o, hk, rfl, h1⟩
          have hown := own_below hown h1
          have hown2 := own_below hown2 h1
          have hL := hL.trans (h1.mono (by have := rx.1; omega))
          clear sa ca0 ca1 ca2 ca3 fa0 fa1 fa2 fa3
          clear sb cb0 cb1 cb2 cb3 fb0 fb1 fb2 fb3
          clear sx cx0 cx1 cx2 cx3 fx0 fx1 fx2 fx3
          replace hB := hB.trans (h1.mono hB.size)
          replace ra := Row.below ra h1
          replace rb := Row.below rb h1
          replace rx := Row.below rx h1
          clear h1
          obtain ⟨sa, ca0, ca1, ca2, ca3, fa0, fa1, fa2, fa3⟩ := Row.cells4 ra
          obtain ⟨sb, cb0, cb1, cb2, cb3, fb0, fb1, fb2, fb3⟩ := Row.cells4 rb
          obtain ⟨sx, cx0, cx1, cx2, cx3, fx0, fx1, fx2, fx3⟩ := Row.cells4 rx
          go_wp2
          go_meet
          case rel => exact ⟨o, hk, rfl, rfl, (by repeat (first | (with_reducible exact rx) | (with_reducible exact row_new' (by first | omega | (simp; done) | (simp; omega))) | (with_reducible refine Row.drew ?_) | (with_reducible refine Row.drewN ?_ _) | (with_reducible refine Row.alloc ?_ _) | (with_reducible apply Row.set4) | (with_reducible apply Row.set4a) | (with_reducible apply Row.set4b) | (with_reducible apply Row.set2) | (with_reducible apply Row.set1) | (with_reducible refine Row.set_other ?_ _ (by first | omega | (simp; done) | (simp; omega))))), (by repeat (first | (with_reducible exact hown) | (with_reducible refine own_set4 ?_ nx1 _ _ _ _) | (with_reducible refine World.ownsRow.alloc ?_ _) | (with_reducible refine own_drewN' ?_ _) | (with_reducible refine own_drew' ?_))), (by repeat (first | (with_reducible exact hown2) | (with_reducible refine own_set4 ?_ nx2 _ _ _ _) | (with_reducible refine World.ownsRow.alloc ?_ _) | (with_reducible refine own_drewN' ?_ _) | (with_reducible refine own_drew' ?_))), (by repeat (first | (with_reducible exact hL) | (with_reducible refine Below.drew ?_) | (with_reducible refine below_drewN ?_ _) | (with_reducible refine Below.alloc ?_ (by first | omega | (simp; done) | (simp; omega)) _) | (with_reducible refine Below.setCell ?_ (by first | omega | (simp; done) | (simp; omega)) _)))⟩
        · go_wp2_with fail
          refine (M5 _ (he.below hB)).mono ?_
          rintro e W1 ⟨o, hk, rfl, h1⟩
          have hown := own_below hown h1
          have hown2 := own_below hown2 h1
          have hL := hL.trans (h1.mono (by have := rx.1; omega))
          clear sa ca0 ca1 ca2 ca3 fa0 fa1 fa2 fa3
          clear sb cb0 cb1 cb2 cb3 fb0 fb1 fb2 fb3
          clear sx cx0 cx1 cx2 cx3 fx0 fx1 fx2 fx3
          replace hB := hB.trans (h1.mono hB.size)
          replace ra := Row.below ra h1
          replace rb := Row.below rb h1
          replace rx := Row.below rx h1
          clear h1
          obtain ⟨sa, ca0, ca1, ca2, ca3, fa0, fa1, fa2, fa3⟩ := Row.cells4 ra
          obtain ⟨sb, cb0, cb1, cb2, cb3, fb0, fb1, fb2, fb3⟩ := Row.cells4 rb
          obtain ⟨sx, cx0, cx1, cx2, cx3, fx0, fx1, fx2, fx3⟩ := Row.cells4 rx
          go_wp2
          go_meet
          case rel => exact ⟨o, hk, rfl, rfl, (by repeat (first | (with_reducible exact rx) | (with_reducible exact row_new' (by first | omega | (simp; done) | (simp; omega))) | (with_reducible refine Row.drew ?_) | (with_reducible refine Row.drewN ?_ _) | (with_reducible refine Row.alloc ?_ _) | (with_reducible apply Row.set4) | (with_reducible apply Row.set4a) | (with_reducible apply Row.set4b) | (with_reducible apply Row.set2) | (with_reducible apply Row.set1) | (with_reducible refine Row.set_other ?_ _ (by first | omega | (simp; done) | (simp; omega))))), (by repeat (first | (with_reducible exact hown) | (with_reducible refine own_set4 ?_ nx1 _ _ _ _) | (with_reducible refine World.ownsRow.alloc ?_ _) | (with_reducible refine own_drewN' ?_ _) | (with_reducible refine own_drew' ?_))), (by repeat (first | (with_reducible exact hown2) | (with_reducible refine own_set4 ?_ nx2 _ _ _ _) | (with_reducible refine World.ownsRow.alloc ?_ _) | (with_reducible refine own_drewN' ?_ _) | (with_reducible refine own_drew' ?_))), (by repeat (first | (with_reducible exact hL) | (with_reducible refine Below.drew ?_) | (with_reducible refine below_drewN ?_ _) | (with_reducible refine Below.alloc ?_ (by first | omega | (simp; done) | (simp; omega)) _) | (with_reducible refine Below.setCell ?_ (by first | omega | (simp; done) | (simp; omega)) _)))⟩
        · go_wp2_with fail
          refine (M6 _ (he.below hB)).mono ?_
          rintro e W1 ⟨o, hk, rfl, h1⟩
          have hown := own_below hown h1
          have hown2 := own_below hown2 h1
          have hL := hL.trans (h1.mono (by have := rx.1; omega))
          clear sa ca0 ca1 ca2 ca3 fa0 fa1 fa2 fa3
          clear sb cb0 cb1 cb2 cb3 fb0 fb1 fb2 fb3
          clear sx cx0 cx1 cx2 cx3 fx0 fx1 fx2 fx3
          replace hB := hB.trans (h1.mono hB.size)
          replace ra := Row.below ra h1
          replace rb := Row.below rb h1
          replace rx := Row.below rx h1
          clear h1
          obtain ⟨sa, ca0, ca1, ca2, ca3, fa0, fa1, fa2, fa3⟩ := Row.cells4 ra
          obtain ⟨sb, cb0, cb1, cb2, cb3, fb0, fb1, fb2, fb3⟩ := Row.cells4 rb
          obtain ⟨sx, cx0, cx1, cx2, cx3, fx0, fx1, fx2, fx3⟩ := Row.cells4 rx
          go_wp2
          go_meet
          case rel => exact ⟨o, hk, rfl, rfl, (by repeat (first | (with_reducible exact rx) | (with_reducible exact row_new' (by first | omega | (simp; done) | (simp; omega))) | (with_reducible refine Row.drew ?_) | (with_reducible refine Row.drewN ?_ _) | (with_reducible refine Row.alloc ?_ _) | (with_reducible apply Row.set4) | (with_reducible apply Row.set4a) | (with_reducible apply Row.set4b) | (with_reducible apply Row.set2) | (with_reducible apply Row.set1) | (with_reducible refine Row.set_other ?_ _ (by first | omega | (simp; done) | (simp; omega))))), (by repeat (first | (with_reducible exact hown) | (with_reducible refine own_set4 ?_ nx1 _ _ _ _) | (with_reducible refine World.ownsRow.alloc ?_ _) | (with_reducible refine own_drewN' ?_ _) | (with_reducible refine own_drew' ?_))), (by repeat (first | (with_reducible exact hown2) | (with_reducible refine own_set4 ?_ nx2 _ _ _ _) | (with_reducible refine World.ownsRow.alloc ?_ _) | (with_reducible refine own_drewN' ?_ _) | (with_reducible refine own_drew' ?_))), (by repeat (first | (with_reducible exact hL) | (with_reducible refine Below.drew ?_) | (with_reducible refine below_drewN ?_ _) | (with_reducible refine Below.alloc ?_ (by first | omega | (simp; done) | (simp; omega)) _) | (with_reducible refine Below.setCell ?_ (by first | omega | (simp; done) | (simp; omega)) _)))⟩
        · go_wp2_with fail
          refine (M7 _ (he.below hB)).mono ?_
          rintro e W1 ⟨o, hk, rfl, h1⟩
          have hown := own_below hown h1
          have hown2 := own_below hown2 h1
          have hL := hL.trans (h1.mono (by have := rx.1; omega))
          clear sa ca0 ca1 ca2 ca3 fa0 fa1 fa2 fa3
          clear sb cb0 cb1 cb2 cb3 fb0 fb1 fb2 fb3
          clear sx cx0 cx1 cx2 cx3 fx0 fx1 fx2 fx3
          replace hB := hB.trans (h1.mono hB.size)
          replace ra := Row.below ra h1
          replace rb := Row.below rb h1
          replace rx := Row.below rx h1
          clear h1
          obtain ⟨sa, ca0, ca1, ca2, ca3, fa0, fa1, fa2, fa3⟩ := Row.cells4 ra
          obtain ⟨sb, cb0, cb1, cb2, cb3, fb0, fb1, fb2, fb3⟩ := Row.cells4 rb
          obtain ⟨sx, cx0, cx1, cx2, cx3, fx0, fx1, fx2, fx3⟩ := Row.cells4 rx
          go_wp2
          go_meet
          case rel => exact ⟨o, hk, rfl, rfl, (by repeat (first | (with_reducible exact rx) | (with_reducible exact row_new' (by first | omega | (simp; done) | (simp; omega))) | (with_reducible refine Row.drew ?_) | (with_reducible refine Row.drewN ?_ _) | (with_reducible refine Row.alloc ?_ _) | (with_reducible apply Row.set4) | (with_reducible apply Row.set4a) | (with_reducible apply Row.set4b) | (with_reducible apply Row.set2) | (with_reducible apply Row.set1) | (with_reducible refine Row.set_other ?_ _ (by first | omega | (simp; done) | (simp; omega))))), (by repeat (first | (with_reducible exact hown) | (with_reducible refine own_set4 ?_ nx1 _ _ _ _) | (with_reducible refine World.ownsRow.alloc ?_ _) | (with_reducible refine own_drewN' ?_ _) | (with_reducible refine own_drew' ?_))), (by repeat (first | (with_reducible exact hown2) | (with_reducible refine own_set4 ?_ nx2 _ _ _ _) | (with_reducible refine World.ownsRow.alloc ?_ _) | (with_reducible refine own_drewN' ?_ _) | (with_reducible refine own_drew' ?_))), (by repeat (first | (with_reducible exact hL) | (with_reducible refine Below.drew ?_) | (with_reducible refine below_drewN ?_ _) | (with_reducible refine Below.alloc ?_ (by first | omega | (simp; done) | (simp; omega)) _) | (with_reducible refine Below.setCell ?_ (by first | omega | (simp; done) | (simp; omega)) _)))⟩
      case rest =>
        obtain ⟨o, hk, rfl, rfl, rx, hown, hown2, hL⟩ := hcut
        clear sa ca0 ca1 ca2 ca3 fa0 fa1 fa2 fa3 sb cb0 cb1 cb2 cb3 fb0 fb1 fb2 fb3 sx cx0 cx1 cx2 cx3 fx0 fx1 fx2 fx3
        clear ra rb hB
        obtain ⟨sx, cx0, cx1, cx2, cx3, fx0, fx1, fx2, fx3⟩ := Row.cells4 rx
        have sL := hL.size
        have hk := Lib.hid hk
        generalize g1 : oS1 o = s1 at *
        generalize g2 : oS2 o = s2 at *
        generalize g3 : oS3 o = s3 at *
        generalize g4 : oS4 o = s4 at *
        generalize g5 : oE o = s5 at *
        have HC : Hid (oC o = [.string s1, .string s2, .string s3, .string s4]) := Lib.hid (by unfold oC; rw [g1, g2, g3, g4])
        have HE : Hid (oE o = s5) := Lib.hid g5
        clear g1 g2 g3 g4 g5
        go_upto_region 25 with (at_builtin; go_loud (refine wpList_append_own _ rfl (.tmp 81) (.tmp 83) 40 rfl (w.heap.size + 1 + 1) 29 i0 (.agg #[.string ⟨#[]⟩, .string ⟨#[]⟩, .string ⟨#[]⟩, .string ⟨#[]⟩]) 4 64 Tryz.underlying40 hi hz0 hz1 hz2 rfl (by decide) u8 i (oCells os) ?oa ?ob ⟨wc.heap.size, 0, none⟩ 1 1 [.string s1, .string s2, .string s3, .string s4] ?oc ?od ?oe ?of ?og ?oh ?oi ?oj; (case oa => rfl); (case ob => exact (by repeat (first | (with_reducible exact hown) | (with_reducible refine own_set4 ?_ nx1 _ _ _ _) | (with_reducible refine World.ownsRow.alloc ?_ _) | (with_reducible refine own_drewN' ?_ _) | (with_reducible refine own_drew' ?_)))); (case oc => rfl); (case od => rfl); (case oe => exact (news_row (t := 29) (by repeat (first | (with_reducible exact row_new' (by first | omega | (simp; done) | (simp; omega))) | (with_reducible refine Row.drew ?_) | (with_reducible refine Row.drewN ?_ _) | (with_reducible refine Row.alloc ?_ _) | (with_reducible apply Row.set4) | (with_reducible apply Row.set4a) | (with_reducible apply Row.set4b) | (with_reducible apply Row.set2) | (with_reducible apply Row.set1) | (with_reducible refine Row.set_other ?_ _ (by first | omega | (simp; done) | (simp; omega))))))); (case of => simp [Value.oneCell']); (case og => unfold maxLen; omega); (case oh => omega); (case oi => simp; omega); intro v8 W5 hown5 hg5 _; have q1 : w.heap.size + 1 + 1 ≤ wc.heap.size := (by omega); have q2 : w.heap.size + 1 + 1 ≤ (wc.alloc (Obj.cells #[Value.string s1, Value.string s2, Value.string s3, Value.string s4] 29)).heap.size := (by simp; omega); have hL5 := Below.grown (hL.alloc q1 _) hg5 q2 (own_ge' hown); have hown25 := World.ownsRow.kept (World.ownsRow.alloc hown2 _) hg5 (own_ne (by decide) hown2 hown); clear hg5))
        clear hown hown2 hL sL rx sx cx0 cx1 cx2 cx3 fx0 fx1 fx2 fx3
        have sL := hL5.size
        go_wp2_with (at_builtin; refine wpList_append_own _ rfl (.tmp 85) (.tmp 87) 41 rfl (w.heap.size + 1 + 1) 31 e0 (.int .i64 0) 1 8 Tryz.underlying41 he0 hy0 hy1 hy2 rfl (by decide) u9 i _ rfl (World.ownsRow.alloc hown25 _) ⟨W5.heap.size, 0, none⟩ 1 1 [.int .i64 s5] rfl rfl (cell_one_new _ _ _) (by simp [Value.oneCell']) (by unfold maxLen; omega) (by omega) (by simp; omega) ?_; intro v9 W6 hown6 hg6 _; have q1 : w.heap.size + 1 + 1 ≤ W5.heap.size := (by omega); have q2 : w.heap.size + 1 + 1 ≤ (W5.alloc (Obj.cells #[Value.int IntKind.i64 s5] 31)).heap.size := (by simp; omega); have hL6 := Below.grown (hL5.alloc q1 _) hg6 q2 (own_ge' hown25); have hown56 := World.ownsRow.kept (World.ownsRow.alloc hown5 _) hg6 (own_ne (by decide) hown5 hown25); clear hg6)
        go_roundw
        case rel => exact ⟨i + 1, os ++ [o], _, _, rfl, rfl, by go_num, by omega, by simp [hl], Lib.hid (ho.out.snoc hl hk.out), by rw [← oCells_snoc, HC.out]; exact hown56, by rw [← oErrs_snoc, HE.out]; exact hown6, hL6⟩
        case measure => simp [intOf]; omega
    · obtain rfl : i = 8 := by omega
      go_wp2
      go_ret2
      exact ⟨os, _, _, hl, ho.out, rfl, own_mono hown (by omega), own_mono hown2 (by omega), hB⟩
theorem ecalls {a0 : Addr} {j : Nat} {a b : Iv} (p : Nat) (da : IDig j a) (db : IDig j b) (oa : a.Ok) (ob : b.Ok) (h0 : 0 < j) (hp : p ≤ 30) (hj : j + j + p + p + 1 ≤ 200) (w : World) (he : EnvE a0 w) :
    Calls Tryz.prog 22 #[I a, I b, .int .i64 (p : Int)] w (callsOk a b (TT p) w) :=
  ecalls_walk a b p (fun W h => op_add da db oa ob (by omega) W h.env) (fun W h => op_sub da db oa ob (by omega) W h.env) (fun W h => op_mul da db oa ob (by omega) W h.env) (fun W h => op_div da db oa ob (by omega) W h)
    (fun W h => op_hull da db oa ob (by omega) W h.env) (fun W h => op_meet da db oa ob (by omega) W h) (fun W h => op_sqrt da oa h0 hp (by omega) W h) (fun W h => op_round da oa hp (by omega) W h.env) w he
end Go.Proofs.YtngohpgkceedeaaGreatDoor
