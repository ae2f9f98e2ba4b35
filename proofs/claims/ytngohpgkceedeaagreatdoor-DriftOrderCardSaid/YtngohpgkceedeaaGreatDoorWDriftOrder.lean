/-
  DriftOrder: the walk.
-/
import Derived.Test.YtngohpgkceedeaaGreatDoorWR12Same
set_option linter.unusedSimpArgs false
set_option linter.unusedVariables false
namespace Go.Proofs.YtngohpgkceedeaaGreatDoor
open Go Go.RowKit Go.Lib Go.Shelf
attribute [local go_sem] normalQ

set_option maxRecDepth 100000 in
set_option maxHeartbeats 16000000 in
theorem driftOrder_any (r0 r1 : Int) (px : Option Addr) (nx cx : Nat) (fx : Nat → Nat → Int) (po : Option Addr) (no co : Nat) (fo : Nat → Nat → Int) (la ti : Int) (hr : IsInt r0 ∧ IsInt r1) (w : World) (hx : nx ≤ 9223372036854775807 ∧ XK 4 w px nx fx ∧ ∀ i j, i < nx → j < 4 → IsInt (fx i j)) (ho : no ≤ 9223372036854775807 ∧ XK 1 w po no fo ∧ ∀ i j, i < no → j < 1 → IsInt (fo i j)) (hla : IsInt la) (hti : IsInt ti) (he : Env w) :
    Calls Tryz.prog 6 #[.agg #[.int .i64 r0, .int .i64 r1], .slice px nx cx, .slice po no co, .int .i64 la, .int .i64 ti] w (BoolOk true w) := by
  have hB : Below w.heap.size w w := Below.refl _ _
  have NEH : (49 : TypeId) ≠ 53 := by decide
  have MS := fun W (H : Env W) => sane12 W H
  obtain ⟨i0, hi0, hz0, hz1, hz2⟩ := info_parts pointInfo
  obtain ⟨hnx, hX, hfx⟩ := hx
  have HXX := Lib.hid hX
  obtain ⟨hno, hO, hfo⟩ := ho
  have HOO := Lib.hid hO
  clear hO
  have LT := fun W => pickL12 la 1000 hla (by decide) W
  have a1 := pk_nonneg la (n := 1000) (by decide)
  have a2 := pk_lt la (n := 1000) (by decide)
  obtain ⟨y, hy⟩ : ∃ y : Nat, pk la 1000 = (y : Int) := ⟨(pk la 1000).toNat, by omega⟩
  rw [hy] at LT
  have hy3 : y ≤ 1000 := by omega
  clear a1 a2 hy hla
  have TT := fun W => pickL12 ti 130 hti (by decide) W
  have t1 := pk_nonneg ti (n := 130) (by decide)
  have t2 := pk_lt ti (n := 130) (by decide)
  obtain ⟨t, ht⟩ : ∃ t : Nat, pk ti 130 = (t : Int) := ⟨(pk ti 130).toNat, by omega⟩
  rw [ht] at TT
  have ht3 : t ≤ 130 := by omega
  clear t1 t2 ht hti
  have hmd := (made_ok r0 r1 fx (min nx 8) (by omega)).1
  obtain ⟨r, hr0⟩ : ∃ r, madeRate r0 r1 = r := ⟨_, rfl⟩
  obtain ⟨l, hl0⟩ : ∃ l, madeL fx (min nx 8) = l := ⟨_, rfl⟩
  obtain ⟨m, hm0⟩ : ∃ m, l.length = m := ⟨_, rfl⟩
  rw [hr0, hl0] at hmd
  have MM := fun W (h : X4 W px nx fx) => made_n (cx := cx) hr.1 hr.2 hfx hnx hr0 hl0 hm0 W h
  have hm8 : m ≤ 8 := by rw [← hm0]; exact hmd.few
  have HM0 := Lib.hid hm0
  clear hr0 hl0 hm0 hX hfx hr hnx
  unfold BoolOk at MS
  go_enter Tryz.func6, Tryz.ntmps6
  go_wp2_with fail
  have sB := hB.size
  refine world_cut (fun X => Below w.heap.size w X ∧ Row X w.heap.size (.cells #[.int .i64 r0, .int .i64 r1] 50)) ⟨BW, RWk⟩ ?_
  clear hB sB
  rintro V1 ⟨hB, rrt⟩
  have Frt : ∀ X, Row X w.heap.size (.cells #[.int .i64 r0, .int .i64 r1] 50) → (w.heap.size < X.heap.size ∧ X.cell? ⟨w.heap.size, 0, none⟩ = some (.int .i64 r0) ∧ X.cell? ⟨w.heap.size, 1, none⟩ = some (.int .i64 r1)) := fun X h => ⟨h.1, Row.cell_at h 0 rfl, Row.cell_at h 1 rfl⟩
  obtain ⟨srt, crt0, crt1⟩ := Frt _ rrt
  refine (MS _ (he.below hB)).mono ?_
  rintro e W2 ⟨rfl, h1⟩
  clear srt crt0 crt1
  replace hB := hB.trans (h1.mono hB.size)
  replace rrt := Row.below rrt h1
  clear h1
  obtain ⟨srt, crt0, crt1⟩ := Frt _ rrt
  go_wp2_with fail
  clear rrt
  clear srt crt0 crt1
  clear Frt
  refine (MM _ (X4.below HXX.out hB)).mono ?_
  rintro e W3 ⟨p, c, ⟨hp, hmc⟩, rfl, h1⟩
  replace hB := hB.trans (h1.mono hB.size)
  clear h1
  go_wp2_with fail
  have sB := hB.size
  refine world_cut (fun X => Below w.heap.size w X ∧ Row X W3.heap.size (.cells #[.string (S r.num), .string (S (r.den : Int)), .slice p m c] 49) ∧ PAt X p l) ⟨BW, RWk, (by first | exact PAt.below hp BW)⟩ ?_
  clear hB sB hp
  rintro V4 ⟨hB, rh, hp⟩
  have Fh : ∀ X, Row X W3.heap.size (.cells #[.string (S r.num), .string (S (r.den : Int)), .slice p m c] 49) → (W3.heap.size < X.heap.size ∧ X.cell? ⟨W3.heap.size, 0, none⟩ = some (.string (S r.num)) ∧ X.cell? ⟨W3.heap.size, 1, none⟩ = some (.string (S (r.den : Int))) ∧ X.cell? ⟨W3.heap.size, 2, none⟩ = some (.slice p m c)) := fun X h => ⟨h.1, Row.cell_at h 0 rfl, Row.cell_at h 1 rfl, Row.cell_at h 2 rfl⟩
  obtain ⟨sh, ch0, ch1, ch2⟩ := Fh _ rh
  refine (LT _).mono ?_
  rintro e W5 ⟨rfl, h1⟩
  clear sh ch0 ch1 ch2
  replace hB := hB.trans (h1.mono hB.size)
  replace rh := Row.below rh h1
  replace hp := PAt.below hp h1
  clear h1
  obtain ⟨sh, ch0, ch1, ch2⟩ := Fh _ rh
  go_wp2_with fail
  refine (TT _).mono ?_
  rintro e W6 ⟨rfl, h1⟩
  clear sh ch0 ch1 ch2
  replace hB := hB.trans (h1.mono hB.size)
  replace rh := Row.below rh h1
  replace hp := PAt.below hp h1
  clear h1
  obtain ⟨sh, ch0, ch1, ch2⟩ := Fh _ rh
  go_wp2_with fail
  have hpl := plow_at hp
  obtain ⟨n0, hn0⟩ : ∃ n, n = W6.heap.size := ⟨_, rfl⟩
  have hnh : W3.heap.size < n0 := by rw [hn0]; exact sh
  have hnw : w.heap.size ≤ n0 := by rw [hn0]; exact hB.size
  rw [← hn0] at hpl
  have hsz : n0 ≤ W6.heap.size := by omega
  clear hn0
  clear sh ch0 ch1 ch2
  go_loopw [13, 14] (fun v13 v14 wr => ∃ i : Nat, v14 = .int .i64 (i : Int) ∧ i ≤ m ∧ wr.ownsRow n0 53 5 v13 (ded l i).length (pCells (ded l i)) ∧ PAt wr p l ∧ n0 ≤ wr.heap.size ∧ Below w.heap.size w wr ∧ Row wr W3.heap.size (.cells #[.string (S r.num), .string (S (r.den : Int)), .slice p m c] 49)) (fun _ v14 _ => (m - intOf v14).toNat)
  case atStart => exact ⟨0, rfl, Nat.zero_le _, ⟨rfl, .inl ⟨rfl, rfl⟩⟩, hp, hsz, hB, rh⟩
  case round =>
    clear hB rh hp hsz
    obtain ⟨i, rfl, him, hown, hp, hsz, hB, rh⟩ := hrel
    obtain ⟨sA, sC, rfl⟩ := own_slice hown
    rcases Nat.lt_or_ge i m with hlt | hge
    · have hlt' : i < l.length := by rw [HM0.out]; exact hlt
      obtain ⟨u, hu⟩ : ∃ u, u = ptD l i := ⟨_, rfl⟩
      obtain ⟨g, cur, hpg, rg, g0, g1, g2, g3, g4⟩ := PAt.at hp hlt'
      rw [← hu] at g0 g1 g2 g3 g4
      subst hpg
      have hgn : g < n0 := by rcases hpl with h | ⟨g', e, h⟩; (· rw [h] at hlt'; simp at hlt'); (· simp only [Option.some.injEq, Addr.mk.injEq, and_true] at e; rw [e]; exact h)
      obtain ⟨s, hs⟩ : ∃ s, s = (ptD l (i - 1)).t := ⟨_, rfl⟩
      have hd1 : ded l (i + 1) = if i = 0 ∨ s ≠ u.t then ded l i ++ [u] else ded l i := by rw [hu, hs]; rfl
      have HD1 := Lib.hid hd1
      have HSS := Lib.hid hs
      have HUU := Lib.hid hu
      clear hs hu
      have hi : (i : Int) < (m : Int) := by omega
      have hlen : (ded l i).length ≤ i := (ded_ok (l := l) hmd.ok.sorted i (by omega)).len
      clear hd1
      have Fh : ∀ X, Row X W3.heap.size (.cells #[.string (S r.num), .string (S (r.den : Int)), .slice (some ⟨g, 0, none⟩) m c] 49) → (W3.heap.size < X.heap.size ∧ X.cell? ⟨W3.heap.size, 0, none⟩ = some (.string (S r.num)) ∧ X.cell? ⟨W3.heap.size, 1, none⟩ = some (.string (S (r.den : Int))) ∧ X.cell? ⟨W3.heap.size, 2, none⟩ = some (.slice (some ⟨g, 0, none⟩) m c)) := fun X h => ⟨h.1, Row.cell_at h 0 rfl, Row.cell_at h 1 rfl, Row.cell_at h 2 rfl⟩
      obtain ⟨sh, ch0, ch1, ch2⟩ := Fh _ rh
      have Fg : ∀ X, Row X g (.cells cur 53) → (g < X.heap.size ∧ X.cell? ⟨g, i * 5, none⟩ = some (.int .i64 (u.t : Int)) ∧ X.cell? ⟨g, i * 5 + 1, none⟩ = some (.string (S u.iv.lo.num)) ∧ X.cell? ⟨g, i * 5 + 2, none⟩ = some (.string (S (u.iv.lo.den : Int))) ∧ X.cell? ⟨g, i * 5 + 3, none⟩ = some (.string (S u.iv.hi.num)) ∧ X.cell? ⟨g, i * 5 + 4, none⟩ = some (.string (S (u.iv.hi.den : Int)))) := fun X h => ⟨h.1, Row.cell_at h _ g0, Row.cell_at h _ g1, Row.cell_at h _ g2, Row.cell_at h _ g3, Row.cell_at h _ g4⟩
      obtain ⟨sg, cg0, cg1, cg2, cg3, cg4⟩ := Fg _ rg
      by_cases hc : i = 0 ∨ s ≠ u.t
      · have HC := Lib.hid hc
        clear hc
        go_upto_region 9 with fail
        go_cut [63] (fun s63 W => s63 = .bool true ∧ Below w.heap.size w W ∧ Row W W3.heap.size (.cells #[.string (S r.num), .string (S (r.den : Int)), .slice (some ⟨g, 0, none⟩) m c] 49) ∧ Row W g (.cells cur 53) ∧ PAt W (some ⟨g, 0, none⟩) l ∧ W.ownsRow n0 53 5 (.slice sA (ded l i).length sC) (ded l i).length (pCells (ded l i)) ∧ n0 ≤ W.heap.size)
        case first =>
          rcases Nat.eq_zero_or_pos i with hi0z | hi0p
          · have HZ := Lib.hid hi0z
            clear hi0z
            go_wp2_with fail
            refine wp_region_vals [.int .i64 (i : Int), .bool true, .bool true, undef, undef, undef, undef, undef, undef, undef, undef, undef, undef, undef, undef, undef, undef, .bool true] (by kernel_rfl) (by kernel_rfl) rfl (allVals.cons qv0 (allVals.cons (qvf HZ.out) (allVals.cons qv0 (allVals.cons qv0 (allVals.cons qv0 (allVals.cons qv0 (allVals.cons qv0 (allVals.cons qv0 (allVals.cons qv0 (allVals.cons qv0 (allVals.cons qv0 (allVals.cons qv0 (allVals.cons qv0 (allVals.cons qv0 (allVals.cons qv0 (allVals.cons qv0 (allVals.cons qv0 (allVals.cons qv0 trivial)))))))))))))))))) ?_
            rintro W h1
            clear sh ch0 ch1 ch2
            clear sg cg0 cg1 cg2 cg3 cg4
            replace hB := hB.trans (h1.mono hB.size)
            replace rh := Row.below rh h1
            replace rg := Row.below rg h1
            replace hp := PAt.below hp h1
            replace hown := own_later hown h1
            replace hsz := le_below hsz h1
            clear h1
            obtain ⟨sh, ch0, ch1, ch2⟩ := Fh _ rh
            obtain ⟨sg, cg0, cg1, cg2, cg3, cg4⟩ := Fg _ rg
            simp only [setVals, List.setIfInBounds_toArray, List.set_cons_succ, List.set_cons_zero]
            go_wp2
            go_meet
            case rel => exact ⟨rfl, BW, RWk, RWk, (by first | exact PAt.below hp BW), OW, (by first | omega | (simp; omega))⟩
          · obtain ⟨j, hij⟩ : ∃ j, i = j + 1 := ⟨i - 1, by omega⟩
            obtain ⟨g', cur2, hg2, rg2, z0, -, -, -, -⟩ := PAt.at hp (show j < l.length by omega)
            rw [show (ptD l j).t = s by rw [HSS.out, hij]; rfl] at z0
            simp only [Option.some.injEq, Addr.mk.injEq, and_true] at hg2
            subst hg2
            obtain rfl : cur = cur2 := by have := rg.2.symm.trans rg2.2; simpa using this
            clear rg2
            have hsj : IntKind.i64.wrap ((i : Int) - 1) = (j : Int) := by rw [IntKind.wrap_i64]; omega
            have hjI : (j : Int) < (m : Int) := by omega
            have HNZ : Hid (¬ i = 0) := Lib.hid (by omega)
            have HIJ := Lib.hid hij
            have HS := Lib.hid (show ¬ ((s : Int) = (u.t : Int)) from by have := HC.out; have := HNZ.out; omega)
            clear hij
            have Fh : ∀ X, Row X W3.heap.size (.cells #[.string (S r.num), .string (S (r.den : Int)), .slice (some ⟨g, 0, none⟩) m c] 49) → (W3.heap.size < X.heap.size ∧ X.cell? ⟨W3.heap.size, 0, none⟩ = some (.string (S r.num)) ∧ X.cell? ⟨W3.heap.size, 1, none⟩ = some (.string (S (r.den : Int))) ∧ X.cell? ⟨W3.heap.size, 2, none⟩ = some (.slice (some ⟨g, 0, none⟩) m c)) := fun X h => ⟨h.1, Row.cell_at h 0 rfl, Row.cell_at h 1 rfl, Row.cell_at h 2 rfl⟩
            obtain ⟨sh, ch0, ch1, ch2⟩ := Fh _ rh
            have Fg : ∀ X, Row X g (.cells cur 53) → (g < X.heap.size ∧ X.cell? ⟨g, i * 5, none⟩ = some (.int .i64 (u.t : Int)) ∧ X.cell? ⟨g, i * 5 + 1, none⟩ = some (.string (S u.iv.lo.num)) ∧ X.cell? ⟨g, i * 5 + 2, none⟩ = some (.string (S (u.iv.lo.den : Int))) ∧ X.cell? ⟨g, i * 5 + 3, none⟩ = some (.string (S u.iv.hi.num)) ∧ X.cell? ⟨g, i * 5 + 4, none⟩ = some (.string (S (u.iv.hi.den : Int))) ∧ X.cell? ⟨g, j * 5, none⟩ = some (.int .i64 (s : Int))) := fun X h => ⟨h.1, Row.cell_at h _ g0, Row.cell_at h _ g1, Row.cell_at h _ g2, Row.cell_at h _ g3, Row.cell_at h _ g4, Row.cell_at h _ z0⟩
            obtain ⟨sg, cg0, cg1, cg2, cg3, cg4, cg5⟩ := Fg _ rg
            go_wp2_with fail
            refine wp_region_vals [.int .i64 (i : Int), .bool false, .bool false, .pointer (some ⟨W3.heap.size, 2, none⟩), .slice (some ⟨g, 0, none⟩) m c, .int .i64 (i : Int), .int .i64 (j : Int), .pointer (some ⟨g, j * 5, none⟩), .pointer (some ⟨g, j * 5, none⟩), .int .i64 (s : Int), .pointer (some ⟨W3.heap.size, 2, none⟩), .slice (some ⟨g, 0, none⟩) m c, .int .i64 (i : Int), .pointer (some ⟨g, i * 5, none⟩), .pointer (some ⟨g, i * 5, none⟩), .int .i64 (u.t : Int), .bool true, .bool true] (by kernel_rfl) (by kernel_rfl) rfl (allVals.cons qv0 (allVals.cons (qvf HNZ.out) (allVals.cons qv0 (allVals.cons qv0 (allVals.cons (qv1 fun X h => Fh X (Row.below rh h)) (allVals.cons qv0 (allVals.cons (qvf hsj) (allVals.cons (qvf hjI) (allVals.cons qv0 (allVals.cons (qv1 fun X h => Fg X (Row.below rg h)) (allVals.cons qv0 (allVals.cons (qv1 fun X h => Fh X (Row.below rh h)) (allVals.cons qv0 (allVals.cons (qvf hi) (allVals.cons qv0 (allVals.cons (qv1 fun X h => Fg X (Row.below rg h)) (allVals.cons (qvf HS.out) (allVals.cons qv0 trivial)))))))))))))))))) ?_
            rintro W h1
            clear sh ch0 ch1 ch2
            clear sg cg0 cg1 cg2 cg3 cg4 cg5
            replace hB := hB.trans (h1.mono hB.size)
            replace rh := Row.below rh h1
            replace rg := Row.below rg h1
            replace hp := PAt.below hp h1
            replace hown := own_later hown h1
            replace hsz := le_below hsz h1
            clear h1
            obtain ⟨sh, ch0, ch1, ch2⟩ := Fh _ rh
            obtain ⟨sg, cg0, cg1, cg2, cg3, cg4, cg5⟩ := Fg _ rg
            simp only [setVals, List.setIfInBounds_toArray, List.set_cons_succ, List.set_cons_zero]
            go_wp2
            go_meet
            case rel => exact ⟨rfl, BW, RWk, RWk, (by first | exact PAt.below hp BW), OW, (by first | omega | (simp; omega))⟩
        case rest =>
          clear hB rh rg hp hown hsz
          clear sh ch0 ch1 ch2
          clear sg cg0 cg1 cg2 cg3 cg4
          obtain ⟨rfl, hB, rh, rg, hp, hown, hsz⟩ := hcut
          have sB := hB.size
          clear sB
          obtain ⟨sh, ch0, ch1, ch2⟩ := Fh _ rh
          obtain ⟨sg, cg0, cg1, cg2, cg3, cg4⟩ := Fg _ rg
          have hde : ded l (i + 1) = ded l i ++ [u] := by rw [HD1.out, if_pos HC.out]
          have HDE := Lib.hid hde
          clear hde
          go_upto_region 10 with fail
          go_wp2_with (at_builtin; refine wpList_append_reads _ rfl (.tmp 64) (.tmp 70) 47 rfl n0 53 i0 (.agg #[.int .i64 0, .string ⟨#[]⟩, .string ⟨#[]⟩, .string ⟨#[]⟩, .string ⟨#[]⟩]) 5 72 Tryz.underlying47 hi0 hz0 hz1 hz2 rfl (by decide) (.slice sA (ded l i).length sC) (ded l i).length (pCells (ded l i)) rfl (hown.alloc _) (wc.heap.size + 1) (some ⟨wc.heap.size, 0, none⟩) 1 1 (pC u) rfl (reads_new _ u) (by intro x hx; exact pCells_one [u] x (by simpa [pCells] using hx)) (by unfold maxLen; omega) (by omega) (by simp; omega) ?_; intro v' W9 hown' hgrow'; replace rh := own_row_ne (hown.alloc _) hgrow' (rh.alloc _) hnh; replace hp := pat_grow (PAt.below hp ((Below.refl _ _).alloc (Nat.le_refl _) _)) hpl (hown.alloc _) hgrow'; replace hB := Below.grown (hB.alloc (by omega) _) hgrow' (by have := hB.size; first | omega | (simp; omega)) (fun k hk => by have := (World.ownsRow.lt hown k hk).1; omega); replace hsz : n0 ≤ W9.heap.size := Nat.le_trans (by simp; omega) hgrow'.size; clear hown rg; (try clear sh ch0 ch1 ch2 sg cg0 cg1 cg2 cg3 cg4))
          go_roundw
          case rel => exact ⟨i + 1, by go_num, by omega, by rw [HDE.out, List.length_append, pCells_app, pCells_cons, pCells_nil, List.append_nil]; exact hown', hp, hsz, hB, rh⟩
          case measure => simp [intOf]; omega
      · have HC := Lib.hid hc
        clear hc
        go_upto_region 9 with fail
        go_cut [63] (fun s63 W => s63 = .bool false ∧ Below w.heap.size w W ∧ Row W W3.heap.size (.cells #[.string (S r.num), .string (S (r.den : Int)), .slice (some ⟨g, 0, none⟩) m c] 49) ∧ Row W g (.cells cur 53) ∧ PAt W (some ⟨g, 0, none⟩) l ∧ W.ownsRow n0 53 5 (.slice sA (ded l i).length sC) (ded l i).length (pCells (ded l i)) ∧ n0 ≤ W.heap.size)
        case first =>
          have hi0p : 0 < i := by have := HC.out; omega
          · obtain ⟨j, hij⟩ : ∃ j, i = j + 1 := ⟨i - 1, by omega⟩
            obtain ⟨g', cur2, hg2, rg2, z0, -, -, -, -⟩ := PAt.at hp (show j < l.length by omega)
            rw [show (ptD l j).t = s by rw [HSS.out, hij]; rfl] at z0
            simp only [Option.some.injEq, Addr.mk.injEq, and_true] at hg2
            subst hg2
            obtain rfl : cur = cur2 := by have := rg.2.symm.trans rg2.2; simpa using this
            clear rg2
            have hsj : IntKind.i64.wrap ((i : Int) - 1) = (j : Int) := by rw [IntKind.wrap_i64]; omega
            have hjI : (j : Int) < (m : Int) := by omega
            have HNZ : Hid (¬ i = 0) := Lib.hid (by omega)
            have HIJ := Lib.hid hij
            have HS := Lib.hid (show s = u.t from by have := HC.out; have := HNZ.out; omega)
            clear hij
            have Fh : ∀ X, Row X W3.heap.size (.cells #[.string (S r.num), .string (S (r.den : Int)), .slice (some ⟨g, 0, none⟩) m c] 49) → (W3.heap.size < X.heap.size ∧ X.cell? ⟨W3.heap.size, 0, none⟩ = some (.string (S r.num)) ∧ X.cell? ⟨W3.heap.size, 1, none⟩ = some (.string (S (r.den : Int))) ∧ X.cell? ⟨W3.heap.size, 2, none⟩ = some (.slice (some ⟨g, 0, none⟩) m c)) := fun X h => ⟨h.1, Row.cell_at h 0 rfl, Row.cell_at h 1 rfl, Row.cell_at h 2 rfl⟩
            obtain ⟨sh, ch0, ch1, ch2⟩ := Fh _ rh
            have Fg : ∀ X, Row X g (.cells cur 53) → (g < X.heap.size ∧ X.cell? ⟨g, i * 5, none⟩ = some (.int .i64 (u.t : Int)) ∧ X.cell? ⟨g, i * 5 + 1, none⟩ = some (.string (S u.iv.lo.num)) ∧ X.cell? ⟨g, i * 5 + 2, none⟩ = some (.string (S (u.iv.lo.den : Int))) ∧ X.cell? ⟨g, i * 5 + 3, none⟩ = some (.string (S u.iv.hi.num)) ∧ X.cell? ⟨g, i * 5 + 4, none⟩ = some (.string (S (u.iv.hi.den : Int))) ∧ X.cell? ⟨g, j * 5, none⟩ = some (.int .i64 (s : Int))) := fun X h => ⟨h.1, Row.cell_at h _ g0, Row.cell_at h _ g1, Row.cell_at h _ g2, Row.cell_at h _ g3, Row.cell_at h _ g4, Row.cell_at h _ z0⟩
            obtain ⟨sg, cg0, cg1, cg2, cg3, cg4, cg5⟩ := Fg _ rg
            go_wp2_with fail
            refine wp_region_vals [.int .i64 (i : Int), .bool false, .bool false, .pointer (some ⟨W3.heap.size, 2, none⟩), .slice (some ⟨g, 0, none⟩) m c, .int .i64 (i : Int), .int .i64 (j : Int), .pointer (some ⟨g, j * 5, none⟩), .pointer (some ⟨g, j * 5, none⟩), .int .i64 (s : Int), .pointer (some ⟨W3.heap.size, 2, none⟩), .slice (some ⟨g, 0, none⟩) m c, .int .i64 (i : Int), .pointer (some ⟨g, i * 5, none⟩), .pointer (some ⟨g, i * 5, none⟩), .int .i64 (u.t : Int), .bool false, .bool false] (by kernel_rfl) (by kernel_rfl) rfl (allVals.cons qv0 (allVals.cons (qvf HNZ.out) (allVals.cons qv0 (allVals.cons qv0 (allVals.cons (qv1 fun X h => Fh X (Row.below rh h)) (allVals.cons qv0 (allVals.cons (qvf hsj) (allVals.cons (qvf hjI) (allVals.cons qv0 (allVals.cons (qv1 fun X h => Fg X (Row.below rg h)) (allVals.cons qv0 (allVals.cons (qv1 fun X h => Fh X (Row.below rh h)) (allVals.cons qv0 (allVals.cons (qvf hi) (allVals.cons qv0 (allVals.cons (qv1 fun X h => Fg X (Row.below rg h)) (allVals.cons (qvf HS.out) (allVals.cons qv0 trivial)))))))))))))))))) ?_
            rintro W h1
            clear sh ch0 ch1 ch2
            clear sg cg0 cg1 cg2 cg3 cg4 cg5
            replace hB := hB.trans (h1.mono hB.size)
            replace rh := Row.below rh h1
            replace rg := Row.below rg h1
            replace hp := PAt.below hp h1
            replace hown := own_later hown h1
            replace hsz := le_below hsz h1
            clear h1
            obtain ⟨sh, ch0, ch1, ch2⟩ := Fh _ rh
            obtain ⟨sg, cg0, cg1, cg2, cg3, cg4, cg5⟩ := Fg _ rg
            simp only [setVals, List.setIfInBounds_toArray, List.set_cons_succ, List.set_cons_zero]
            go_wp2
            go_meet
            case rel => exact ⟨rfl, BW, RWk, RWk, (by first | exact PAt.below hp BW), OW, (by first | omega | (simp; omega))⟩
        case rest =>
          clear hB rh rg hp hown hsz
          clear sh ch0 ch1 ch2
          clear sg cg0 cg1 cg2 cg3 cg4
          obtain ⟨rfl, hB, rh, rg, hp, hown, hsz⟩ := hcut
          have sB := hB.size
          clear sB
          obtain ⟨sh, ch0, ch1, ch2⟩ := Fh _ rh
          obtain ⟨sg, cg0, cg1, cg2, cg3, cg4⟩ := Fg _ rg
          have hde : ded l (i + 1) = ded l i := by rw [HD1.out, if_neg HC.out]
          have HDE := Lib.hid hde
          clear hde
          go_wp2
          go_roundw
          case rel => exact ⟨i + 1, by go_num, by omega, by rw [HDE.out]; exact hown, hp, hsz, hB, rh⟩
          case measure => simp [intOf]; omega
    · obtain ⟨wA, rfl⟩ : ∃ W, W = wr := ⟨_, rfl⟩
      obtain rfl : m = i := by omega
      have hdo := ded_ok (l := l) hmd.ok.sorted m (by rw [HM0.out]; exact Nat.le_refl _)
      generalize hd : ded l m = d at *
      obtain ⟨HO, HT, HI⟩ := ded_hist hmd hdo hm8
      have hdlt := hdo.lt
      have hdl := hdo.len
      generalize hn : d.length = n at *
      have hn8 : n ≤ 8 := by omega
      have hpd : PAt wA sA d := own_patR hown hn
      have HN := Lib.hid hn
      have HDL := Lib.hid hdlt
      clear hd hdo hdl hn hown hp hpl hmd HM0 hge hdlt hm8
      have Fh : ∀ X, Row X W3.heap.size (.cells #[.string (S r.num), .string (S (r.den : Int)), .slice p m c] 49) → (W3.heap.size < X.heap.size ∧ X.cell? ⟨W3.heap.size, 0, none⟩ = some (.string (S r.num)) ∧ X.cell? ⟨W3.heap.size, 1, none⟩ = some (.string (S (r.den : Int))) ∧ X.cell? ⟨W3.heap.size, 2, none⟩ = some (.slice p m c)) := fun X h => ⟨h.1, Row.cell_at h 0 rfl, Row.cell_at h 1 rfl, Row.cell_at h 2 rfl⟩
      obtain ⟨sh, ch0, ch1, ch2⟩ := Fh _ rh
      go_wp2_with fail
      have dh_mv : W3.heap.size < wA.heap.size + 1 := by omega
      have d0_mv : w.heap.size ≤ wA.heap.size + 1 := by have := hB.size; omega
      have sB := hB.size
      refine wp_cut (fun X => Below w.heap.size w X ∧ Row X W3.heap.size (.cells #[.string (S r.num), .string (S (r.den : Int)), .slice p m c] 49) ∧ Row X wA.heap.size (.cells #[.string (S r.num), .string (S (r.den : Int)), .slice sA n sC] 49) ∧ Row X (wA.heap.size + 1) (.cells #[.string (S r.num), .string (S (r.den : Int)), .slice none 0 0] 49) ∧ PAt X sA d ∧ n0 ≤ X.heap.size) ⟨BW, RWk, RWk, RWk, (by first | exact PAt.below hpd BW), (by first | omega | (simp; omega))⟩ ?_
      clear rh
      clear sh ch0 ch1 ch2
      clear hB sB hpd hsz
      rintro V7 ⟨hB, rh, rone, rmv, hpd, hsz⟩
      obtain ⟨sh, ch0, ch1, ch2⟩ := Fh _ rh
      have Fone : ∀ X, Row X wA.heap.size (.cells #[.string (S r.num), .string (S (r.den : Int)), .slice sA n sC] 49) → (wA.heap.size < X.heap.size ∧ X.cell? ⟨wA.heap.size, 0, none⟩ = some (.string (S r.num)) ∧ X.cell? ⟨wA.heap.size, 1, none⟩ = some (.string (S (r.den : Int))) ∧ X.cell? ⟨wA.heap.size, 2, none⟩ = some (.slice sA n sC)) := fun X h => ⟨h.1, Row.cell_at h 0 rfl, Row.cell_at h 1 rfl, Row.cell_at h 2 rfl⟩
      obtain ⟨sone, cone0, cone1, cone2⟩ := Fone _ rone
      have Fmv : ∀ X, Row X (wA.heap.size + 1) (.cells #[.string (S r.num), .string (S (r.den : Int)), .slice none 0 0] 49) → (wA.heap.size + 1 < X.heap.size ∧ X.cell? ⟨wA.heap.size + 1, 0, none⟩ = some (.string (S r.num)) ∧ X.cell? ⟨wA.heap.size + 1, 1, none⟩ = some (.string (S (r.den : Int))) ∧ X.cell? ⟨wA.heap.size + 1, 2, none⟩ = some (.slice none 0 0) ∧ X.frozen? ⟨wA.heap.size + 1, 0, none⟩ = false ∧ X.frozen? ⟨wA.heap.size + 1, 1, none⟩ = false ∧ X.frozen? ⟨wA.heap.size + 1, 2, none⟩ = false) := fun X h => ⟨h.1, Row.cell_at h 0 rfl, Row.cell_at h 1 rfl, Row.cell_at h 2 rfl, frozen_of_row _ _ 0 _ _ h.2, frozen_of_row _ _ 1 _ _ h.2, frozen_of_row _ _ 2 _ _ h.2⟩
      obtain ⟨smv, cmv0, cmv1, cmv2, fmv0, fmv1, fmv2⟩ := Fmv _ rmv
      obtain ⟨n1, hn1⟩ : ∃ n, n = V7.heap.size := ⟨_, rfl⟩
      have hnh : W3.heap.size < n1 := by rw [hn1]; exact sh
      have hno : wA.heap.size < n1 := by rw [hn1]; exact sone
      have hnv : wA.heap.size + 1 < n1 := by rw [hn1]; exact smv
      have hnw1 : w.heap.size ≤ n1 := by omega
      have hsz1 : n1 ≤ V7.heap.size := by omega
      have hpl := plow_at hpd
      rw [← hn1] at hpl
      clear hn1 hsz
      clear sh ch0 ch1 ch2
      clear sone cone0 cone1 cone2
      clear smv cmv0 cmv1 cmv2 fmv0 fmv1 fmv2
      go_loopw [17] (fun v17 wr => ∃ (i : Nat) (v : Value), v17 = .int .i64 (i : Int) ∧ i ≤ n ∧ wr.ownsRow n1 53 5 v i (pCells (laterPts y (d.take i))) ∧ PAt wr sA d ∧ n1 ≤ wr.heap.size ∧ Below w.heap.size w wr ∧ Row wr W3.heap.size (.cells #[.string (S r.num), .string (S (r.den : Int)), .slice p m c] 49) ∧ Row wr wA.heap.size (.cells #[.string (S r.num), .string (S (r.den : Int)), .slice sA n sC] 49) ∧ Row wr (wA.heap.size + 1) (.cells #[.string (S r.num), .string (S (r.den : Int)), v] 49)) (fun v17 _ => (n - intOf v17).toNat)
      case atStart => exact ⟨0, _, rfl, Nat.zero_le _, World.ownsRow_nil _ _ _ _, hpd, hsz1, hB, rh, rone, rmv⟩
      case round =>
        clear hB rh rone rmv hpd hsz1
        obtain ⟨i, v, rfl, hin, hown, hpd, hsz1, hB, rh, rone, rmv⟩ := hrel
        obtain ⟨vB, cB, rfl⟩ := own_slice hown
        rcases Nat.lt_or_ge i n with hlt | hge
        · have hlt' : i < d.length := by rw [HN.out]; exact hlt
          obtain ⟨u, hu⟩ : ∃ u, u = ptD d i := ⟨_, rfl⟩
          obtain ⟨g, cur, hpg, rg, g0, g1, g2, g3, g4⟩ := PAt.at hpd hlt'
          rw [← hu] at g0 g1 g2 g3 g4
          subst hpg
          have hut : u.t ≤ 100 := by rw [hu]; exact HT _ (ptD_mem hlt')
          have hls : laterPts y (d.take (i + 1)) = laterPts y (d.take i) ++ [⟨u.t + y, u.iv⟩] := by rw [hu]; exact later_succ hlt'
          have HLS := Lib.hid hls
          have hi : (i : Int) < (n : Int) := by omega
          clear hls hu
          obtain ⟨nq, hnq⟩ : ∃ n, n = wr.heap.size := ⟨_, rfl⟩
          have hvb : ∀ g, (Value.slice vB i cB).ownBlock = some g → g < nq := fun g hg => by rw [hnq]; exact (World.ownsRow.lt hown g hg).2
          have hq0 : nq ≤ wr.heap.size := by omega
          have hq1 : n1 ≤ nq := by omega
          clear hnq
          have Fh : ∀ X, Row X W3.heap.size (.cells #[.string (S r.num), .string (S (r.den : Int)), .slice p m c] 49) → (W3.heap.size < X.heap.size ∧ X.cell? ⟨W3.heap.size, 0, none⟩ = some (.string (S r.num)) ∧ X.cell? ⟨W3.heap.size, 1, none⟩ = some (.string (S (r.den : Int))) ∧ X.cell? ⟨W3.heap.size, 2, none⟩ = some (.slice p m c)) := fun X h => ⟨h.1, Row.cell_at h 0 rfl, Row.cell_at h 1 rfl, Row.cell_at h 2 rfl⟩
          obtain ⟨sh, ch0, ch1, ch2⟩ := Fh _ rh
          have Fone : ∀ X, Row X wA.heap.size (.cells #[.string (S r.num), .string (S (r.den : Int)), .slice (some ⟨g, 0, none⟩) n sC] 49) → (wA.heap.size < X.heap.size ∧ X.cell? ⟨wA.heap.size, 0, none⟩ = some (.string (S r.num)) ∧ X.cell? ⟨wA.heap.size, 1, none⟩ = some (.string (S (r.den : Int))) ∧ X.cell? ⟨wA.heap.size, 2, none⟩ = some (.slice (some ⟨g, 0, none⟩) n sC)) := fun X h => ⟨h.1, Row.cell_at h 0 rfl, Row.cell_at h 1 rfl, Row.cell_at h 2 rfl⟩
          obtain ⟨sone, cone0, cone1, cone2⟩ := Fone _ rone
          have Fmv : ∀ X, Row X (wA.heap.size + 1) (.cells #[.string (S r.num), .string (S (r.den : Int)), .slice vB i cB] 49) → (wA.heap.size + 1 < X.heap.size ∧ X.cell? ⟨wA.heap.size + 1, 0, none⟩ = some (.string (S r.num)) ∧ X.cell? ⟨wA.heap.size + 1, 1, none⟩ = some (.string (S (r.den : Int))) ∧ X.cell? ⟨wA.heap.size + 1, 2, none⟩ = some (.slice vB i cB) ∧ X.frozen? ⟨wA.heap.size + 1, 0, none⟩ = false ∧ X.frozen? ⟨wA.heap.size + 1, 1, none⟩ = false ∧ X.frozen? ⟨wA.heap.size + 1, 2, none⟩ = false) := fun X h => ⟨h.1, Row.cell_at h 0 rfl, Row.cell_at h 1 rfl, Row.cell_at h 2 rfl, frozen_of_row _ _ 0 _ _ h.2, frozen_of_row _ _ 1 _ _ h.2, frozen_of_row _ _ 2 _ _ h.2⟩
          obtain ⟨smv, cmv0, cmv1, cmv2, fmv0, fmv1, fmv2⟩ := Fmv _ rmv
          have Fg : ∀ X, Row X g (.cells cur 53) → (g < X.heap.size ∧ X.cell? ⟨g, i * 5, none⟩ = some (.int .i64 (u.t : Int)) ∧ X.cell? ⟨g, i * 5 + 1, none⟩ = some (.string (S u.iv.lo.num)) ∧ X.cell? ⟨g, i * 5 + 2, none⟩ = some (.string (S (u.iv.lo.den : Int))) ∧ X.cell? ⟨g, i * 5 + 3, none⟩ = some (.string (S u.iv.hi.num)) ∧ X.cell? ⟨g, i * 5 + 4, none⟩ = some (.string (S (u.iv.hi.den : Int)))) := fun X h => ⟨h.1, Row.cell_at h _ g0, Row.cell_at h _ g1, Row.cell_at h _ g2, Row.cell_at h _ g3, Row.cell_at h _ g4⟩
          obtain ⟨sg, cg0, cg1, cg2, cg3, cg4⟩ := Fg _ rg
          go_upto_region 18 with fail
          have dh_q : W3.heap.size < wr.heap.size := by omega
          have done_q : wA.heap.size < wr.heap.size := by omega
          have dmv_q : wA.heap.size + 1 < wr.heap.size := by omega
          have dg_q : g < wr.heap.size := by omega
          have d0_q : w.heap.size ≤ wr.heap.size := by have := hB.size; omega
          have sB := hB.size
          refine wp_cut (fun X => Below w.heap.size w X ∧ Row X W3.heap.size (.cells #[.string (S r.num), .string (S (r.den : Int)), .slice p m c] 49) ∧ Row X wA.heap.size (.cells #[.string (S r.num), .string (S (r.den : Int)), .slice (some ⟨g, 0, none⟩) n sC] 49) ∧ Row X (wA.heap.size + 1) (.cells #[.string (S r.num), .string (S (r.den : Int)), .slice vB i cB] 49) ∧ Row X g (.cells cur 53) ∧ Row X wr.heap.size (.cells #[.int .i64 ((u.t : Int) + (y : Int)), .string (S u.iv.lo.num), .string (S (u.iv.lo.den : Int)), .string (S u.iv.hi.num), .string (S (u.iv.hi.den : Int))] 53) ∧ PAt X (some ⟨g, 0, none⟩) d ∧ n1 ≤ X.heap.size ∧ X.ownsRow n1 53 5 (.slice vB i cB) i (pCells (laterPts y (d.take i)))) ⟨BW, RWk, RWk, RWk, RWk, RWk, (by first | exact PAt.below hpd BW | exact pat_setCells [_] _ hpd hpl (by omega)), (by first | omega | (simp; omega)), OW1⟩ ?_
          clear rh
          clear sh ch0 ch1 ch2
          clear rone
          clear sone cone0 cone1 cone2
          clear rmv
          clear smv cmv0 cmv1 cmv2 fmv0 fmv1 fmv2
          clear rg
          clear sg cg0 cg1 cg2 cg3 cg4
          clear hB sB hpd hsz1 hown
          rintro V8 ⟨hB, rh, rone, rmv, rg, rq, hpd, hsz1, hown⟩
          obtain ⟨sh, ch0, ch1, ch2⟩ := Fh _ rh
          obtain ⟨sone, cone0, cone1, cone2⟩ := Fone _ rone
          obtain ⟨smv, cmv0, cmv1, cmv2, fmv0, fmv1, fmv2⟩ := Fmv _ rmv
          obtain ⟨sg, cg0, cg1, cg2, cg3, cg4⟩ := Fg _ rg
          have Fq : ∀ X, Row X wr.heap.size (.cells #[.int .i64 ((u.t : Int) + (y : Int)), .string (S u.iv.lo.num), .string (S (u.iv.lo.den : Int)), .string (S u.iv.hi.num), .string (S (u.iv.hi.den : Int))] 53) → (wr.heap.size < X.heap.size ∧ X.cell? ⟨wr.heap.size, 0, none⟩ = some (.int .i64 ((u.t : Int) + (y : Int))) ∧ X.cell? ⟨wr.heap.size, 1, none⟩ = some (.string (S u.iv.lo.num)) ∧ X.cell? ⟨wr.heap.size, 2, none⟩ = some (.string (S (u.iv.lo.den : Int))) ∧ X.cell? ⟨wr.heap.size, 3, none⟩ = some (.string (S u.iv.hi.num)) ∧ X.cell? ⟨wr.heap.size, 4, none⟩ = some (.string (S (u.iv.hi.den : Int))) ∧ X.frozen? ⟨wr.heap.size, 0, none⟩ = false ∧ X.frozen? ⟨wr.heap.size, 1, none⟩ = false ∧ X.frozen? ⟨wr.heap.size, 2, none⟩ = false ∧ X.frozen? ⟨wr.heap.size, 3, none⟩ = false ∧ X.frozen? ⟨wr.heap.size, 4, none⟩ = false) := fun X h => ⟨h.1, Row.cell_at h 0 rfl, Row.cell_at h 1 rfl, Row.cell_at h 2 rfl, Row.cell_at h 3 rfl, Row.cell_at h 4 rfl, frozen_of_row _ _ 0 _ _ h.2, frozen_of_row _ _ 1 _ _ h.2, frozen_of_row _ _ 2 _ _ h.2, frozen_of_row _ _ 3 _ _ h.2, frozen_of_row _ _ 4 _ _ h.2⟩
          obtain ⟨sq, cq0, cq1, cq2, cq3, cq4, fq0, fq1, fq2, fq3, fq4⟩ := Fq _ rq
          go_wp2_with (at_builtin; refine wpList_append_reads _ rfl (.tmp 95) (.tmp 97) 47 rfl n1 53 i0 (.agg #[.int .i64 0, .string ⟨#[]⟩, .string ⟨#[]⟩, .string ⟨#[]⟩, .string ⟨#[]⟩]) 5 72 Tryz.underlying47 hi0 hz0 hz1 hz2 rfl (by decide) (.slice vB i cB) i (pCells (laterPts y (d.take i))) rfl (hown.alloc _) (V8.heap.size + 1) (some ⟨V8.heap.size, 0, none⟩) 1 1 (pC ⟨u.t + y, u.iv⟩) rfl (reads_new _ ⟨u.t + y, u.iv⟩) (by intro x hx; exact pCells_one [⟨u.t + y, u.iv⟩] x (by simpa [pCells] using hx)) (by unfold maxLen; omega) (by omega) (by simp; omega) ?_; intro v' W9 hown' hgrow'; obtain ⟨vN, cN, rfl⟩ := own_slice hown'; replace rh := own_row_ne (hown.alloc _) hgrow' (rh.alloc _) hnh; replace rone := own_row_ne (hown.alloc _) hgrow' (rone.alloc _) hno; replace rmv := own_row_ne (hown.alloc _) hgrow' (rmv.alloc _) hnv; replace hpd := pat_grow (PAt.below hpd ((Below.refl _ _).alloc (Nat.le_refl _) _)) hpl (hown.alloc _) hgrow'; replace hB := Below.grown (hB.alloc (by omega) _) hgrow' (by have := hB.size; first | omega | (simp; omega)) (fun k hk => by have := (World.ownsRow.lt hown k hk).1; omega); replace hsz1 : n1 ≤ W9.heap.size := Nat.le_trans (by simp; omega) hgrow'.size; clear hown rg rq; (try clear sh ch0 ch1 ch2 sone cone0 cone1 cone2 smv cmv0 cmv1 cmv2 fmv0 fmv1 fmv2 sg cg0 cg1 cg2 cg3 cg4 sq cq0 cq1 cq2 cq3 cq4 fq0 fq1 fq2 fq3 fq4); obtain ⟨smv, cmv0, cmv1, cmv2, fmv0, fmv1, fmv2⟩ := Fmv _ rmv)
          go_roundw
          case rel => exact ⟨i + 1, _, by go_num, by omega, own_setD (by rw [HLS.out, pCells_app, pCells_cons, pCells_nil, List.append_nil]; exact hown') (fun e => by have := (World.ownsRow.lt hown' _ e).1; omega) 2 _, pat_set hpd rmv NEH 2 _, by simp; exact hsz1, BW, RWk, RWk, RWk⟩
          case measure => simp [intOf]; omega
        · obtain ⟨wC, rfl⟩ : ∃ W, W = wr := ⟨_, rfl⟩
          obtain rfl : n = i := by omega
          rw [List.take_of_length_le (show d.length ≤ n by rw [HN.out]; exact Nat.le_refl _)] at hown
          have hpm : PAt wC vB (laterPts y d) := own_patR hown (by unfold laterPts; rw [List.length_map]; exact HN.out)
          clear hown hge hin
          have Fh : ∀ X, Row X W3.heap.size (.cells #[.string (S r.num), .string (S (r.den : Int)), .slice p m c] 49) → (W3.heap.size < X.heap.size ∧ X.cell? ⟨W3.heap.size, 0, none⟩ = some (.string (S r.num)) ∧ X.cell? ⟨W3.heap.size, 1, none⟩ = some (.string (S (r.den : Int))) ∧ X.cell? ⟨W3.heap.size, 2, none⟩ = some (.slice p m c)) := fun X h => ⟨h.1, Row.cell_at h 0 rfl, Row.cell_at h 1 rfl, Row.cell_at h 2 rfl⟩
          obtain ⟨sh, ch0, ch1, ch2⟩ := Fh _ rh
          have Fone : ∀ X, Row X wA.heap.size (.cells #[.string (S r.num), .string (S (r.den : Int)), .slice sA n sC] 49) → (wA.heap.size < X.heap.size ∧ X.cell? ⟨wA.heap.size, 0, none⟩ = some (.string (S r.num)) ∧ X.cell? ⟨wA.heap.size, 1, none⟩ = some (.string (S (r.den : Int))) ∧ X.cell? ⟨wA.heap.size, 2, none⟩ = some (.slice sA n sC)) := fun X h => ⟨h.1, Row.cell_at h 0 rfl, Row.cell_at h 1 rfl, Row.cell_at h 2 rfl⟩
          obtain ⟨sone, cone0, cone1, cone2⟩ := Fone _ rone
          have Fmv : ∀ X, Row X (wA.heap.size + 1) (.cells #[.string (S r.num), .string (S (r.den : Int)), .slice vB n cB] 49) → (wA.heap.size + 1 < X.heap.size ∧ X.cell? ⟨wA.heap.size + 1, 0, none⟩ = some (.string (S r.num)) ∧ X.cell? ⟨wA.heap.size + 1, 1, none⟩ = some (.string (S (r.den : Int))) ∧ X.cell? ⟨wA.heap.size + 1, 2, none⟩ = some (.slice vB n cB) ∧ X.frozen? ⟨wA.heap.size + 1, 0, none⟩ = false ∧ X.frozen? ⟨wA.heap.size + 1, 1, none⟩ = false ∧ X.frozen? ⟨wA.heap.size + 1, 2, none⟩ = false) := fun X h => ⟨h.1, Row.cell_at h 0 rfl, Row.cell_at h 1 rfl, Row.cell_at h 2 rfl, frozen_of_row _ _ 0 _ _ h.2, frozen_of_row _ _ 1 _ _ h.2, frozen_of_row _ _ 2 _ _ h.2⟩
          obtain ⟨smv, cmv0, cmv1, cmv2, fmv0, fmv1, fmv2⟩ := Fmv _ rmv
          go_upto_region 19 with fail
          obtain ⟨n2, hn2⟩ : ∃ n, n = wC.heap.size := ⟨_, rfl⟩
          have hmh : W3.heap.size < n2 := by rw [hn2]; exact sh
          have hmo : wA.heap.size < n2 := by rw [hn2]; exact sone
          have hmv : wA.heap.size + 1 < n2 := by rw [hn2]; exact smv
          have hnw2 : w.heap.size ≤ n2 := by omega
          have hsz2 : n2 ≤ wC.heap.size := by omega
          have hp1 := plow_at hpd
          have hp2 := plow_at hpm
          rw [← hn2] at hp1 hp2
          have hzo : (wC.alloc (.cells #[] 53)).ownsRow n2 53 5 (.slice (some ⟨wC.heap.size, 0, none⟩) 0 0) 0 [] := World.ownsRow_made _ #[] 0 (by omega) (by decide) rfl
          have hzr : Reads (wC.alloc (.cells #[] 53)) wC.heap.size 5 sA n (pCells d) := by have h9 := (reads_pat hpd).alloc (Nat.le_refl _) (.cells #[] 53); rw [HN.out] at h9; exact h9
          clear hn2 hsz1 hpl hnh hno hnv
          go_upto_region 20 with (at_builtin; refine wpList_append_reads _ rfl (.tmp 100) (.tmp 101) 47 rfl n2 53 i0 (.agg #[.int .i64 0, .string ⟨#[]⟩, .string ⟨#[]⟩, .string ⟨#[]⟩, .string ⟨#[]⟩]) 5 72 Tryz.underlying47 hi0 hz0 hz1 hz2 rfl (by decide) (.slice (some ⟨wC.heap.size, 0, none⟩) 0 0) 0 [] rfl hzo wC.heap.size sA n sC (pCells d) rfl hzr (by intro x hx; exact pCells_one d x hx) (by unfold maxLen; omega) (by omega) (by simp; omega) ?_; intro v' W9 hown' hgrow'; replace rh := own_row_ne hzo hgrow' (rh.alloc _) hmh; replace rone := own_row_ne hzo hgrow' (rone.alloc _) hmo; replace rmv := own_row_ne hzo hgrow' (rmv.alloc _) hmv; replace hpd := pat_grow (PAt.below hpd ((Below.refl _ _).alloc (Nat.le_refl _) _)) hp1 hzo hgrow'; replace hpm := pat_grow (PAt.below hpm ((Below.refl _ _).alloc (Nat.le_refl _) _)) hp2 hzo hgrow'; replace hB := Below.grown (hB.alloc (by omega) _) hgrow' (by have := hB.size; first | omega | (simp; omega)) (fun k hk => by have := (World.ownsRow.lt hzo k hk).1; omega); replace hsz2 : n2 ≤ W9.heap.size := Nat.le_trans (by simp; omega) hgrow'.size; rw [Nat.zero_add, List.nil_append] at hown'; clear hzo hzr hgrow'; (try clear sh ch0 ch1 ch2 sone cone0 cone1 cone2 smv cmv0 cmv1 cmv2 fmv0 fmv1 fmv2); obtain ⟨vA, cA, rfl⟩ := own_slice hown'; have hown := hown'; clear hown')
          have hnw := hnw2
          clear hnw2
          have Fh : ∀ X, Row X W3.heap.size (.cells #[.string (S r.num), .string (S (r.den : Int)), .slice p m c] 49) → (W3.heap.size < X.heap.size ∧ X.cell? ⟨W3.heap.size, 0, none⟩ = some (.string (S r.num)) ∧ X.cell? ⟨W3.heap.size, 1, none⟩ = some (.string (S (r.den : Int))) ∧ X.cell? ⟨W3.heap.size, 2, none⟩ = some (.slice p m c)) := fun X h => ⟨h.1, Row.cell_at h 0 rfl, Row.cell_at h 1 rfl, Row.cell_at h 2 rfl⟩
          obtain ⟨sh, ch0, ch1, ch2⟩ := Fh _ rh
          have Fone : ∀ X, Row X wA.heap.size (.cells #[.string (S r.num), .string (S (r.den : Int)), .slice sA n sC] 49) → (wA.heap.size < X.heap.size ∧ X.cell? ⟨wA.heap.size, 0, none⟩ = some (.string (S r.num)) ∧ X.cell? ⟨wA.heap.size, 1, none⟩ = some (.string (S (r.den : Int))) ∧ X.cell? ⟨wA.heap.size, 2, none⟩ = some (.slice sA n sC)) := fun X h => ⟨h.1, Row.cell_at h 0 rfl, Row.cell_at h 1 rfl, Row.cell_at h 2 rfl⟩
          obtain ⟨sone, cone0, cone1, cone2⟩ := Fone _ rone
          have Fmv : ∀ X, Row X (wA.heap.size + 1) (.cells #[.string (S r.num), .string (S (r.den : Int)), .slice vB n cB] 49) → (wA.heap.size + 1 < X.heap.size ∧ X.cell? ⟨wA.heap.size + 1, 0, none⟩ = some (.string (S r.num)) ∧ X.cell? ⟨wA.heap.size + 1, 1, none⟩ = some (.string (S (r.den : Int))) ∧ X.cell? ⟨wA.heap.size + 1, 2, none⟩ = some (.slice vB n cB) ∧ X.frozen? ⟨wA.heap.size + 1, 0, none⟩ = false ∧ X.frozen? ⟨wA.heap.size + 1, 1, none⟩ = false ∧ X.frozen? ⟨wA.heap.size + 1, 2, none⟩ = false) := fun X h => ⟨h.1, Row.cell_at h 0 rfl, Row.cell_at h 1 rfl, Row.cell_at h 2 rfl, frozen_of_row _ _ 0 _ _ h.2, frozen_of_row _ _ 1 _ _ h.2, frozen_of_row _ _ 2 _ _ h.2⟩
          obtain ⟨smv, cmv0, cmv1, cmv2, fmv0, fmv1, fmv2⟩ := Fmv _ rmv
          go_wp2_with fail
          clear sh ch0 ch1 ch2
          clear sone cone0 cone1 cone2
          clear smv cmv0 cmv1 cmv2 fmv0 fmv1 fmv2
          go_loopw [20] (fun v20 wr => ∃ k : Nat, v20 = .int .i64 (k : Int) ∧ k ≤ no ∧ k ≤ 20 ∧ (n = 0 → k = 0) ∧ wr.ownsRow n2 53 5 (.slice vA n cA) n (pCells (ordL fo d n k)) ∧ PAt wr sA d ∧ PAt wr vB (laterPts y d) ∧ n2 ≤ wr.heap.size ∧ Below w.heap.size w wr ∧ Row wr W3.heap.size (.cells #[.string (S r.num), .string (S (r.den : Int)), .slice p m c] 49) ∧ Row wr wA.heap.size (.cells #[.string (S r.num), .string (S (r.den : Int)), .slice sA n sC] 49) ∧ Row wr (wA.heap.size + 1) (.cells #[.string (S r.num), .string (S (r.den : Int)), .slice vB n cB] 49)) (fun v20 _ => (21 - intOf v20).toNat)
          case atStart => exact ⟨0, rfl, Nat.zero_le _, Nat.zero_le _, fun _ => rfl, hown, hpd, hpm, hsz2, hB, rh, rone, rmv⟩
          case round =>
            clear hB rh rone rmv hpd hpm hsz2 hown
            obtain ⟨k, rfl, hkn, hk20, hz, hown, hpd, hpm, hsz2, hB, rh, rone, rmv⟩ := hrel
            by_cases hc : k < no ∧ k < 20 ∧ 0 < n
            · obtain ⟨h1, h2, h3⟩ := hc
              obtain ⟨mm, hmm⟩ : ∃ x, x = ordL fo d n k := ⟨_, rfl⟩
              rw [← hmm] at hown
              obtain ⟨g, cur, hgA, hg2, rg, hx, h5, hml, BACK⟩ := own_pts h3 hown
              subst hgA
              clear hown
              obtain ⟨gy, oy, rfl, hgy, hcy⟩ : ∃ g o, po = some ⟨g, o, none⟩ ∧ g < w.heap.size ∧ ∀ i j, i < no → j < 1 → w.cell? ⟨g, o + i * 1 + j, none⟩ = some (.int .i64 (fo i j)) := HOO.out.resolve_left (by omega)
              obtain ⟨y0, e0⟩ : ∃ z, z = fo k 0 := ⟨_, rfl⟩
              have cy0 : w.cell? ⟨gy, oy + k, none⟩ = some (.int .i64 y0) := by rw [e0]; have := hcy k 0 h1 (by decide); simpa using this
              have I0 : IsInt y0 := e0 ▸ hfo k 0 h1 (by decide)
              have I1 := isInt_tdiv I0
              have cx0 := (hB.cell (p := ⟨gy, oy + k, none⟩) hgy).trans cy0
              have KA := fun W => pickL12 y0 (n : Int) I0 (by omega) W
              have hwz : wrap64 (y0.tdiv 8) = y0.tdiv 8 := by obtain ⟨j1, j2⟩ := I1; unfold wrap64; omega
              have KB := fun W => pickL12 (wrap64 (y0.tdiv 8)) (n : Int) (by rw [hwz]; exact I1) (by omega) W
              rw [show pk (wrap64 (y0.tdiv 8)) (n : Int) = pk (y0.tdiv 8) (n : Int) by rw [hwz]] at KB
              clear hwz
              have a1 := pk_nonneg y0 (n := (n : Int)) (by omega)
              have a2 := pk_lt y0 (n := (n : Int)) (by omega)
              obtain ⟨a, ha⟩ : ∃ a : Nat, pk y0 (n : Int) = (a : Int) := ⟨(pk y0 (n : Int)).toNat, by omega⟩
              have b1 := pk_nonneg (y0.tdiv 8) (n := (n : Int)) (by omega)
              have b2 := pk_lt (y0.tdiv 8) (n := (n : Int)) (by omega)
              obtain ⟨b, hb⟩ : ∃ b : Nat, pk (y0.tdiv 8) (n : Int) = (b : Int) := ⟨(pk (y0.tdiv 8) (n : Int)).toNat, by omega⟩
              rw [ha] at KA a1 a2
              rw [hb] at KB b1 b2
              have han : a < n := by omega
              have hbn : b < n := by omega
              have hs1 : ordL fo d n (k + 1) = swp mm a b := by rw [hmm]; show swp (ordL fo d n k) (pk (fo k 0) n).toNat (pk ((fo k 0).tdiv 8) n).toNat = _; rw [← e0, ha, hb]; rfl
              have HS1 := Lib.hid hs1
              have PA := pts_vals hx hml han
              have PB := pts_vals hx hml hbn
              have hswp := pts_swap hx hml han hbn
              obtain ⟨u, hu⟩ : ∃ u, u = ptD mm a := ⟨_, rfl⟩
              obtain ⟨q, hq⟩ : ∃ q, q = ptD mm b := ⟨_, rfl⟩
              rw [← hu] at PA
              rw [← hq] at PB
              rw [← hu, ← hq] at hswp
              have HSW := Lib.hid hswp
              have g0 : cur[a * 5]? = some (.int .i64 (u.t : Int)) := PA 0 (by decide)
              have g1 : cur[a * 5 + 1]? = some (.string (S u.iv.lo.num)) := PA 1 (by decide)
              have g2 : cur[a * 5 + 2]? = some (.string (S (u.iv.lo.den : Int))) := PA 2 (by decide)
              have g3 : cur[a * 5 + 3]? = some (.string (S u.iv.hi.num)) := PA 3 (by decide)
              have g4 : cur[a * 5 + 4]? = some (.string (S (u.iv.hi.den : Int))) := PA 4 (by decide)
              have z0 : cur[b * 5]? = some (.int .i64 (q.t : Int)) := PB 0 (by decide)
              have z1 : cur[b * 5 + 1]? = some (.string (S q.iv.lo.num)) := PB 1 (by decide)
              have z2 : cur[b * 5 + 2]? = some (.string (S (q.iv.lo.den : Int))) := PB 2 (by decide)
              have z3 : cur[b * 5 + 3]? = some (.string (S q.iv.hi.num)) := PB 3 (by decide)
              have z4 : cur[b * 5 + 4]? = some (.string (S (q.iv.hi.den : Int))) := PB 4 (by decide)
              have ha5 : a * 5 + 5 ≤ cur.size := by omega
              have hb5 : b * 5 + 5 ≤ cur.size := by omega
              have hkI : (k : Int) < (no : Int) := by omega
              have hk2 : (k : Int) < 20 := by omega
              have hnI : 0 < (n : Int) := by omega
              have haI : (a : Int) < (n : Int) := by omega
              have hbI : (b : Int) < (n : Int) := by omega
              have HMM := Lib.hid hmm
              have hnW : w.heap.size ≤ g := by omega
              clear PA PB hs1 hswp hu hq hmm e0 ha hb a1 a2 b1 b2 I0 I1 hcy hx hml
              have Fh : ∀ X, Row X W3.heap.size (.cells #[.string (S r.num), .string (S (r.den : Int)), .slice p m c] 49) → (W3.heap.size < X.heap.size ∧ X.cell? ⟨W3.heap.size, 0, none⟩ = some (.string (S r.num)) ∧ X.cell? ⟨W3.heap.size, 1, none⟩ = some (.string (S (r.den : Int))) ∧ X.cell? ⟨W3.heap.size, 2, none⟩ = some (.slice p m c)) := fun X h => ⟨h.1, Row.cell_at h 0 rfl, Row.cell_at h 1 rfl, Row.cell_at h 2 rfl⟩
              obtain ⟨sh, ch0, ch1, ch2⟩ := Fh _ rh
              have Fone : ∀ X, Row X wA.heap.size (.cells #[.string (S r.num), .string (S (r.den : Int)), .slice sA n sC] 49) → (wA.heap.size < X.heap.size ∧ X.cell? ⟨wA.heap.size, 0, none⟩ = some (.string (S r.num)) ∧ X.cell? ⟨wA.heap.size, 1, none⟩ = some (.string (S (r.den : Int))) ∧ X.cell? ⟨wA.heap.size, 2, none⟩ = some (.slice sA n sC)) := fun X h => ⟨h.1, Row.cell_at h 0 rfl, Row.cell_at h 1 rfl, Row.cell_at h 2 rfl⟩
              obtain ⟨sone, cone0, cone1, cone2⟩ := Fone _ rone
              have Fmv : ∀ X, Row X (wA.heap.size + 1) (.cells #[.string (S r.num), .string (S (r.den : Int)), .slice vB n cB] 49) → (wA.heap.size + 1 < X.heap.size ∧ X.cell? ⟨wA.heap.size + 1, 0, none⟩ = some (.string (S r.num)) ∧ X.cell? ⟨wA.heap.size + 1, 1, none⟩ = some (.string (S (r.den : Int))) ∧ X.cell? ⟨wA.heap.size + 1, 2, none⟩ = some (.slice vB n cB) ∧ X.frozen? ⟨wA.heap.size + 1, 0, none⟩ = false ∧ X.frozen? ⟨wA.heap.size + 1, 1, none⟩ = false ∧ X.frozen? ⟨wA.heap.size + 1, 2, none⟩ = false) := fun X h => ⟨h.1, Row.cell_at h 0 rfl, Row.cell_at h 1 rfl, Row.cell_at h 2 rfl, frozen_of_row _ _ 0 _ _ h.2, frozen_of_row _ _ 1 _ _ h.2, frozen_of_row _ _ 2 _ _ h.2⟩
              obtain ⟨smv, cmv0, cmv1, cmv2, fmv0, fmv1, fmv2⟩ := Fmv _ rmv
              have Fg : ∀ X, Row X g (.cells cur 53) → (g < X.heap.size ∧ X.cell? ⟨g, a * 5, none⟩ = some (.int .i64 (u.t : Int)) ∧ X.cell? ⟨g, a * 5 + 1, none⟩ = some (.string (S u.iv.lo.num)) ∧ X.cell? ⟨g, a * 5 + 2, none⟩ = some (.string (S (u.iv.lo.den : Int))) ∧ X.cell? ⟨g, a * 5 + 3, none⟩ = some (.string (S u.iv.hi.num)) ∧ X.cell? ⟨g, a * 5 + 4, none⟩ = some (.string (S (u.iv.hi.den : Int))) ∧ X.cell? ⟨g, b * 5, none⟩ = some (.int .i64 (q.t : Int)) ∧ X.cell? ⟨g, b * 5 + 1, none⟩ = some (.string (S q.iv.lo.num)) ∧ X.cell? ⟨g, b * 5 + 2, none⟩ = some (.string (S (q.iv.lo.den : Int))) ∧ X.cell? ⟨g, b * 5 + 3, none⟩ = some (.string (S q.iv.hi.num)) ∧ X.cell? ⟨g, b * 5 + 4, none⟩ = some (.string (S (q.iv.hi.den : Int)))) := fun X h => ⟨h.1, Row.cell_at h _ g0, Row.cell_at h _ g1, Row.cell_at h _ g2, Row.cell_at h _ g3, Row.cell_at h _ g4, Row.cell_at h _ z0, Row.cell_at h _ z1, Row.cell_at h _ z2, Row.cell_at h _ z3, Row.cell_at h _ z4⟩
              obtain ⟨sg, cg0, cg1, cg2, cg3, cg4, cg5, cg6, cg7, cg8, cg9⟩ := Fg _ rg
              go_wp2_with fail
              refine (KA _).mono ?_
              rintro e W8 ⟨rfl, h1⟩
              clear sh ch0 ch1 ch2
              clear sone cone0 cone1 cone2
              clear smv cmv0 cmv1 cmv2 fmv0 fmv1 fmv2
              clear sg cg0 cg1 cg2 cg3 cg4 cg5 cg6 cg7 cg8 cg9
              replace hB := hB.trans (h1.mono hB.size)
              replace rh := Row.below rh h1
              replace rone := Row.below rone h1
              replace rmv := Row.below rmv h1
              replace rg := Row.below rg h1
              replace hpd := PAt.below hpd h1
              replace hpm := PAt.below hpm h1
              replace hsz2 := le_below hsz2 h1
              clear h1
              obtain ⟨sh, ch0, ch1, ch2⟩ := Fh _ rh
              obtain ⟨sone, cone0, cone1, cone2⟩ := Fone _ rone
              obtain ⟨smv, cmv0, cmv1, cmv2, fmv0, fmv1, fmv2⟩ := Fmv _ rmv
              obtain ⟨sg, cg0, cg1, cg2, cg3, cg4, cg5, cg6, cg7, cg8, cg9⟩ := Fg _ rg
              have cx1 := (hB.cell (p := ⟨gy, oy + k, none⟩) hgy).trans cy0
              go_wp2_with fail
              refine (KB _).mono ?_
              rintro e W9 ⟨rfl, h1⟩
              clear sh ch0 ch1 ch2
              clear sone cone0 cone1 cone2
              clear smv cmv0 cmv1 cmv2 fmv0 fmv1 fmv2
              clear sg cg0 cg1 cg2 cg3 cg4 cg5 cg6 cg7 cg8 cg9
              replace hB := hB.trans (h1.mono hB.size)
              replace rh := Row.below rh h1
              replace rone := Row.below rone h1
              replace rmv := Row.below rmv h1
              replace rg := Row.below rg h1
              replace hpd := PAt.below hpd h1
              replace hpm := PAt.below hpm h1
              replace hsz2 := le_below hsz2 h1
              clear h1
              obtain ⟨sh, ch0, ch1, ch2⟩ := Fh _ rh
              obtain ⟨sone, cone0, cone1, cone2⟩ := Fone _ rone
              obtain ⟨smv, cmv0, cmv1, cmv2, fmv0, fmv1, fmv2⟩ := Fmv _ rmv
              obtain ⟨sg, cg0, cg1, cg2, cg3, cg4, cg5, cg6, cg7, cg8, cg9⟩ := Fg _ rg
              go_wp2_with fail
              refine wp_region_late 13 [2, 3] [.val (.slice (some ⟨g, 0, none⟩) n cA), .val (.int .i64 (a : Int)), .val (.slice (some ⟨g, 0, none⟩) n cA), .val (.int .i64 (b : Int)), .val (.slice (some ⟨g, 0, none⟩) n cA), .val (.int .i64 (b : Int)), .val (.pointer (some ⟨g, b * 5, none⟩)), .val (.agg #[.int .i64 (q.t : Int), .string (S q.iv.lo.num), .string (S (q.iv.lo.den : Int)), .string (S q.iv.hi.num), .string (S (q.iv.hi.den : Int))]), .val (.slice (some ⟨g, 0, none⟩) n cA), .val (.int .i64 (a : Int)), .val (.pointer (some ⟨g, a * 5, none⟩)), .val (.agg #[.int .i64 (u.t : Int), .string (S u.iv.lo.num), .string (S (u.iv.lo.den : Int)), .string (S u.iv.hi.num), .string (S (u.iv.hi.den : Int))]), .val (.pointer (some ⟨g, a * 5, none⟩))] [] (by kernel_rfl) (by kernel_rfl) (by kernel_rfl) rfl trivial (allItems.cons qi0 (allItems.cons qi0 (allItems.cons qi0 (allItems.cons qi0 (allItems.cons qi0 (allItems.cons qi0 (allItems.cons (qif hbI) (allItems.cons (qi1 fun X h => Fg X (Row.below rg h)) (allItems.cons qi0 (allItems.cons qi0 (allItems.cons (qif haI) (allItems.cons (qi1 fun X h => Fg X (Row.below rg h)) (allItems.cons (qif haI) trivial))))))))))))) ?_
              rintro W h1
              clear sh ch0 ch1 ch2
              clear sone cone0 cone1 cone2
              clear smv cmv0 cmv1 cmv2 fmv0 fmv1 fmv2
              clear sg cg0 cg1 cg2 cg3 cg4 cg5 cg6 cg7 cg8 cg9
              replace hB := hB.trans (h1.mono hB.size)
              replace rh := Row.below rh h1
              replace rone := Row.below rone h1
              replace rmv := Row.below rmv h1
              replace rg := Row.below rg h1
              replace hpd := PAt.below hpd h1
              replace hpm := PAt.below hpm h1
              replace hsz2 := le_below hsz2 h1
              clear h1
              obtain ⟨sh, ch0, ch1, ch2⟩ := Fh _ rh
              obtain ⟨sone, cone0, cone1, cone2⟩ := Fone _ rone
              obtain ⟨smv, cmv0, cmv1, cmv2, fmv0, fmv1, fmv2⟩ := Fmv _ rmv
              obtain ⟨sg, cg0, cg1, cg2, cg3, cg4, cg5, cg6, cg7, cg8, cg9⟩ := Fg _ rg
              simp only [setItems, List.setIfInBounds_toArray, List.set_cons_succ, List.set_cons_zero, List.take_succ_cons, List.take_zero, List.drop_succ_cons, List.drop_zero]
              intro _
              clear cx0 cx1
              refine wpList_store_mid rfl _ _ _ rfl g (a * 5) (pC q).toArray rfl rfl (there_row rg ha5) (by kernel_rfl) (pC_one q) ?_
              have rg2 := Row.setCells_same (pC q) (a * 5) rg
              have hIX : ∀ W, (Instr.indexAt 47 (.slice (some ⟨g, 0, none⟩) n cA) (.int .i64 (b : Int))).run Tryz.prog W = .ok (.pointer (some ⟨g, b * 5, none⟩)) W := fun W => by simp [go_sem, hbI]
              refine wpList_index rfl _ _ _ rfl (.slice (some ⟨g, 0, none⟩) n cA) (.int .i64 (b : Int)) rfl rfl _ (hIX _) ?_
              refine wpList_store_mid rfl _ _ _ rfl g (b * 5) (pC u).toArray rfl rfl (there_row rg2 (by rw [setsA_size]; exact hb5)) (by kernel_rfl) (pC_one u) ?_
              have rg3 := Row.setCells_same (pC u) (b * 5) rg2
              have hnow := BACK _ _ (swp mm a b) rg3 (by rw [setsA_size, setsA_size]) HSW.out
              rw [← HS1.out] at hnow
              replace rh := Row.setCells_other (g := g) (pC u) (b * 5) (Row.setCells_other (g := g) (pC q) (a * 5) rh (by omega)) (by omega)
              replace rone := Row.setCells_other (g := g) (pC u) (b * 5) (Row.setCells_other (g := g) (pC q) (a * 5) rone (by omega)) (by omega)
              replace rmv := Row.setCells_other (g := g) (pC u) (b * 5) (Row.setCells_other (g := g) (pC q) (a * 5) rmv (by omega)) (by omega)
              replace hpd := pat_setCells (pC u) (b * 5) (pat_setCells (pC q) (a * 5) hpd hp1 hg2) hp1 hg2
              replace hpm := pat_setCells (pC u) (b * 5) (pat_setCells (pC q) (a * 5) hpm hp2 hg2) hp2 hg2
              replace hB := below_setCells (pC u) (b * 5) (below_setCells (pC q) (a * 5) hB hnW) hnW
              have hsz3 : n2 ≤ ((W.setCells g (a * 5) (pC q)).setCells g (b * 5) (pC u)).heap.size := by rw [setCells_size, setCells_size]; exact hsz2
              clear rg rg2 rg3 BACK HSW HS1 hsz2; (try clear sh ch0 ch1 ch2 sone cone0 cone1 cone2 smv cmv0 cmv1 cmv2 fmv0 fmv1 fmv2 sg cg0 cg1 cg2 cg3 cg4 cg5 cg6 cg7 cg8 cg9)
              show normalQ _ _ _ _
              unfold normalQ
              generalize (W.setCells g (a * 5) (pC q)).setCells g (b * 5) (pC u) = Wn at *
              go_wp2
              go_roundw
              case rel => exact ⟨k + 1, by go_num, by omega, by omega, fun h0 => absurd h0 (by omega), hnow, hpd, hpm, hsz3, hB, rh, rone, rmv⟩
              case measure => simp [intOf]; omega
            · obtain ⟨wE, rfl⟩ : ∃ W, W = wr := ⟨_, rfl⟩
              have HCC := Lib.hid hc
              clear hc
              have Fh : ∀ X, Row X W3.heap.size (.cells #[.string (S r.num), .string (S (r.den : Int)), .slice p m c] 49) → (W3.heap.size < X.heap.size ∧ X.cell? ⟨W3.heap.size, 0, none⟩ = some (.string (S r.num)) ∧ X.cell? ⟨W3.heap.size, 1, none⟩ = some (.string (S (r.den : Int))) ∧ X.cell? ⟨W3.heap.size, 2, none⟩ = some (.slice p m c)) := fun X h => ⟨h.1, Row.cell_at h 0 rfl, Row.cell_at h 1 rfl, Row.cell_at h 2 rfl⟩
              obtain ⟨sh, ch0, ch1, ch2⟩ := Fh _ rh
              have Fone : ∀ X, Row X wA.heap.size (.cells #[.string (S r.num), .string (S (r.den : Int)), .slice sA n sC] 49) → (wA.heap.size < X.heap.size ∧ X.cell? ⟨wA.heap.size, 0, none⟩ = some (.string (S r.num)) ∧ X.cell? ⟨wA.heap.size, 1, none⟩ = some (.string (S (r.den : Int))) ∧ X.cell? ⟨wA.heap.size, 2, none⟩ = some (.slice sA n sC)) := fun X h => ⟨h.1, Row.cell_at h 0 rfl, Row.cell_at h 1 rfl, Row.cell_at h 2 rfl⟩
              obtain ⟨sone, cone0, cone1, cone2⟩ := Fone _ rone
              have Fmv : ∀ X, Row X (wA.heap.size + 1) (.cells #[.string (S r.num), .string (S (r.den : Int)), .slice vB n cB] 49) → (wA.heap.size + 1 < X.heap.size ∧ X.cell? ⟨wA.heap.size + 1, 0, none⟩ = some (.string (S r.num)) ∧ X.cell? ⟨wA.heap.size + 1, 1, none⟩ = some (.string (S (r.den : Int))) ∧ X.cell? ⟨wA.heap.size + 1, 2, none⟩ = some (.slice vB n cB) ∧ X.frozen? ⟨wA.heap.size + 1, 0, none⟩ = false ∧ X.frozen? ⟨wA.heap.size + 1, 1, none⟩ = false ∧ X.frozen? ⟨wA.heap.size + 1, 2, none⟩ = false) := fun X h => ⟨h.1, Row.cell_at h 0 rfl, Row.cell_at h 1 rfl, Row.cell_at h 2 rfl, frozen_of_row _ _ 0 _ _ h.2, frozen_of_row _ _ 1 _ _ h.2, frozen_of_row _ _ 2 _ _ h.2⟩
              obtain ⟨smv, cmv0, cmv1, cmv2, fmv0, fmv1, fmv2⟩ := Fmv _ rmv
              go_upto_region 21 with fail
              go_cut [115] (fun s115 W => s115 = .bool false ∧ Below w.heap.size w W ∧ Row W W3.heap.size (.cells #[.string (S r.num), .string (S (r.den : Int)), .slice p m c] 49) ∧ Row W wA.heap.size (.cells #[.string (S r.num), .string (S (r.den : Int)), .slice sA n sC] 49) ∧ Row W (wA.heap.size + 1) (.cells #[.string (S r.num), .string (S (r.den : Int)), .slice vB n cB] 49) ∧ PAt W sA d ∧ PAt W vB (laterPts y d) ∧ n2 ≤ W.heap.size ∧ W.ownsRow n2 53 5 (.slice vA n cA) n (pCells (ordL fo d n k)))
              case first =>
                rcases Nat.lt_or_ge k no with hx1 | hx1
                · rcases Nat.lt_or_ge k 20 with hx2 | hx2
                  · have hi1 : (k : Int) < (no : Int) := by omega
                    have hi2 : (k : Int) < 20 := by omega
                    have hi3 : ¬ (0 < (n : Int)) := by have := HCC.out; omega
                    go_wp2
                    go_meet
                    case rel => exact ⟨(by rw [decide_eq_false (show ¬ (0 < n) by have := HCC.out; omega)]), BW, RWk, RWk, RWk, (by first | exact PAt.below hpd BW), (by first | exact PAt.below hpm BW), (by first | omega | (simp; omega)), OW1⟩
                  · have hi1 : (k : Int) < (no : Int) := by omega
                    have hi2 : ¬ ((k : Int) < 20) := by omega
                    go_wp2
                    go_meet
                    case rel => exact ⟨rfl, BW, RWk, RWk, RWk, (by first | exact PAt.below hpd BW), (by first | exact PAt.below hpm BW), (by first | omega | (simp; omega)), OW1⟩
                · have hi1 : ¬ ((k : Int) < (no : Int)) := by omega
                  go_wp2
                  go_meet
                  case rel => exact ⟨rfl, BW, RWk, RWk, RWk, (by first | exact PAt.below hpd BW), (by first | exact PAt.below hpm BW), (by first | omega | (simp; omega)), OW1⟩
              case rest =>
                clear hB rh rone rmv hpd hpm hsz2 hown
                clear sh ch0 ch1 ch2
                clear sone cone0 cone1 cone2
                clear smv cmv0 cmv1 cmv2 fmv0 fmv1 fmv2
                obtain ⟨rfl, hB, rh, rone, rmv, hpd, hpm, hsz2, hown⟩ := hcut
                have sB := hB.size
                clear sB
                obtain ⟨sh, ch0, ch1, ch2⟩ := Fh _ rh
                obtain ⟨sone, cone0, cone1, cone2⟩ := Fone _ rone
                obtain ⟨smv, cmv0, cmv1, cmv2, fmv0, fmv1, fmv2⟩ := Fmv _ rmv
                obtain ⟨mm, hmm⟩ : ∃ x, x = ordL fo d n k := ⟨_, rfl⟩
                have hpr : mm.Perm d := by rw [hmm]; rcases Nat.eq_zero_or_pos n with h0 | h0; (· rw [hz h0]; exact List.Perm.refl _); (· exact ordL_perm fo d n HN.out h0 k)
                have hml : mm.length = n := by rw [hpr.length_eq]; exact HN.out
                rw [← hmm] at hown
                have hpA := own_patR hown hml
                have HAL : Hid (addL mm n = d) := Lib.hid (by rw [← hml]; exact addL_all hpr HDL.out)
                have HOK : Hid (∀ j, Hist.Ok ⟨r, addL mm j⟩) := Lib.hid (fun j => addL_ok HO hpr j)
                have HLN : Hid (∀ j, j ≤ n → (addL mm j).length = j) := Lib.hid (fun j hj => addL_len (by rw [hml]; exact hj))
                have HSC : Hid (∀ j, j < n → ins (addL mm j) (ptD mm j) = addL mm (j + 1)) := Lib.hid (fun j hj => addL_succ (by rw [hml]; exact hj))
                have HML := Lib.hid hml
                clear hmm hpr hml hz hown hsz2
                go_wp2_with fail
                have done_two : wA.heap.size < wc.heap.size := by omega
                have dmv_two : wA.heap.size + 1 < wc.heap.size := by omega
                have d0_two : w.heap.size ≤ wc.heap.size := by have := hB.size; omega
                clear Fh
                have sB := hB.size
                refine wp_cut (fun X => Below w.heap.size w X ∧ Row X wA.heap.size (.cells #[.string (S r.num), .string (S (r.den : Int)), .slice sA n sC] 49) ∧ Row X (wA.heap.size + 1) (.cells #[.string (S r.num), .string (S (r.den : Int)), .slice vB n cB] 49) ∧ Row X wc.heap.size (.cells #[.string (S r.num), .string (S (r.den : Int)), .slice none 0 0] 49) ∧ PAt X sA d ∧ PAt X vB (laterPts y d) ∧ PAt X vA mm) ⟨BW, RWk, RWk, RWk, (by first | with_reducible exact pat_set3 hpd rtwo NEH | with_reducible exact pat_set3 hpd rne NEH | exact PAt.below hpd BW), (by first | with_reducible exact pat_set3 hpm rtwo NEH | with_reducible exact pat_set3 hpm rne NEH | exact PAt.below hpm BW), (by first | with_reducible exact pat_set3 hpA rtwo NEH | with_reducible exact pat_set3 hpA rne NEH | exact PAt.below hpA BW)⟩ ?_
                clear rh
                clear sh ch0 ch1 ch2
                clear rone
                clear sone cone0 cone1 cone2
                clear rmv
                clear smv cmv0 cmv1 cmv2 fmv0 fmv1 fmv2
                clear hB sB hpd hpm hpA
                rintro V9 ⟨hB, rone, rmv, rtwo, hpd, hpm, hpA⟩
                obtain ⟨sone, cone0, cone1, cone2⟩ := Fone _ rone
                obtain ⟨smv, cmv0, cmv1, cmv2, fmv0, fmv1, fmv2⟩ := Fmv _ rmv
                have Ftwo : ∀ X, Row X wc.heap.size (.cells #[.string (S r.num), .string (S (r.den : Int)), .slice none 0 0] 49) → (wc.heap.size < X.heap.size ∧ X.cell? ⟨wc.heap.size, 0, none⟩ = some (.string (S r.num)) ∧ X.cell? ⟨wc.heap.size, 1, none⟩ = some (.string (S (r.den : Int))) ∧ X.cell? ⟨wc.heap.size, 2, none⟩ = some (.slice none 0 0) ∧ X.frozen? ⟨wc.heap.size, 0, none⟩ = false ∧ X.frozen? ⟨wc.heap.size, 1, none⟩ = false ∧ X.frozen? ⟨wc.heap.size, 2, none⟩ = false) := fun X h => ⟨h.1, Row.cell_at h 0 rfl, Row.cell_at h 1 rfl, Row.cell_at h 2 rfl, frozen_of_row _ _ 0 _ _ h.2, frozen_of_row _ _ 1 _ _ h.2, frozen_of_row _ _ 2 _ _ h.2⟩
                obtain ⟨stwo, ctwo0, ctwo1, ctwo2, ftwo0, ftwo1, ftwo2⟩ := Ftwo _ rtwo
                clear sone cone0 cone1 cone2
                clear smv cmv0 cmv1 cmv2 fmv0 fmv1 fmv2
                clear stwo ctwo0 ctwo1 ctwo2 ftwo0 ftwo1 ftwo2
                go_loopw [24] (fun v24 wr => ∃ (j c : Nat) (p : Option Addr), v24 = .int .i64 (j : Int) ∧ j ≤ n ∧ PAt wr p (addL mm j) ∧ PAt wr sA d ∧ PAt wr vB (laterPts y d) ∧ PAt wr vA mm ∧ Below w.heap.size w wr ∧ Row wr wA.heap.size (.cells #[.string (S r.num), .string (S (r.den : Int)), .slice sA n sC] 49) ∧ Row wr (wA.heap.size + 1) (.cells #[.string (S r.num), .string (S (r.den : Int)), .slice vB n cB] 49) ∧ Row wr (wc.heap.size) (.cells #[.string (S r.num), .string (S (r.den : Int)), .slice p j c] 49)) (fun v24 _ => (n - intOf v24).toNat)
                case atStart => exact ⟨0, 0, none, rfl, Nat.zero_le _, .inl ⟨rfl, .inl rfl⟩, hpd, hpm, hpA, hB, rone, rmv, rtwo⟩
                case round =>
                  clear hB rone rmv rtwo hpd hpm hpA
                  obtain ⟨j, c4, p4, rfl, hjn, hp4, hpd, hpm, hpA, hB, rone, rmv, rtwo⟩ := hrel
                  rcases Nat.lt_or_ge j n with hlt | hge
                  · have hlt' : j < mm.length := by rw [HML.out]; exact hlt
                    obtain ⟨u, hu⟩ : ∃ u, u = ptD mm j := ⟨_, rfl⟩
                    obtain ⟨g, cur, hpg, rg, g0, g1, g2, g3, g4⟩ := PAt.at hpA hlt'
                    rw [← hu] at g0 g1 g2 g3 g4
                    subst hpg
                    have hsc := HSC.out j hlt
                    rw [← hu] at hsc
                    obtain ⟨lq, hlq⟩ : ∃ x, x = addL mm (j + 1) := ⟨_, rfl⟩
                    rw [← hlq] at hsc
                    have hko := HOK.out (j + 1)
                    rw [← hlq] at hko
                    have hln : lq.length = j + 1 := by rw [hlq]; exact HLN.out (j + 1) (by omega)
                    have HLQ := Lib.hid hln
                    have HQE := Lib.hid hlq
                    have MD := fun W p c (hp : PAt W p (addL mm j)) (H : Env W) => dadd_say (r := r) hsc (HOK.out j) hko p j c (HLN.out j (by omega)) W hp H
                    have hjI : (j : Int) < (n : Int) := by omega
                    clear hu hsc hlq hko hln
                    have Fone : ∀ X, Row X wA.heap.size (.cells #[.string (S r.num), .string (S (r.den : Int)), .slice sA n sC] 49) → (wA.heap.size < X.heap.size ∧ X.cell? ⟨wA.heap.size, 0, none⟩ = some (.string (S r.num)) ∧ X.cell? ⟨wA.heap.size, 1, none⟩ = some (.string (S (r.den : Int))) ∧ X.cell? ⟨wA.heap.size, 2, none⟩ = some (.slice sA n sC)) := fun X h => ⟨h.1, Row.cell_at h 0 rfl, Row.cell_at h 1 rfl, Row.cell_at h 2 rfl⟩
                    obtain ⟨sone, cone0, cone1, cone2⟩ := Fone _ rone
                    have Fmv : ∀ X, Row X (wA.heap.size + 1) (.cells #[.string (S r.num), .string (S (r.den : Int)), .slice vB n cB] 49) → (wA.heap.size + 1 < X.heap.size ∧ X.cell? ⟨wA.heap.size + 1, 0, none⟩ = some (.string (S r.num)) ∧ X.cell? ⟨wA.heap.size + 1, 1, none⟩ = some (.string (S (r.den : Int))) ∧ X.cell? ⟨wA.heap.size + 1, 2, none⟩ = some (.slice vB n cB) ∧ X.frozen? ⟨wA.heap.size + 1, 0, none⟩ = false ∧ X.frozen? ⟨wA.heap.size + 1, 1, none⟩ = false ∧ X.frozen? ⟨wA.heap.size + 1, 2, none⟩ = false) := fun X h => ⟨h.1, Row.cell_at h 0 rfl, Row.cell_at h 1 rfl, Row.cell_at h 2 rfl, frozen_of_row _ _ 0 _ _ h.2, frozen_of_row _ _ 1 _ _ h.2, frozen_of_row _ _ 2 _ _ h.2⟩
                    obtain ⟨smv, cmv0, cmv1, cmv2, fmv0, fmv1, fmv2⟩ := Fmv _ rmv
                    have Ftwo : ∀ X, Row X wc.heap.size (.cells #[.string (S r.num), .string (S (r.den : Int)), .slice p4 j c4] 49) → (wc.heap.size < X.heap.size ∧ X.cell? ⟨wc.heap.size, 0, none⟩ = some (.string (S r.num)) ∧ X.cell? ⟨wc.heap.size, 1, none⟩ = some (.string (S (r.den : Int))) ∧ X.cell? ⟨wc.heap.size, 2, none⟩ = some (.slice p4 j c4) ∧ X.frozen? ⟨wc.heap.size, 0, none⟩ = false ∧ X.frozen? ⟨wc.heap.size, 1, none⟩ = false ∧ X.frozen? ⟨wc.heap.size, 2, none⟩ = false) := fun X h => ⟨h.1, Row.cell_at h 0 rfl, Row.cell_at h 1 rfl, Row.cell_at h 2 rfl, frozen_of_row _ _ 0 _ _ h.2, frozen_of_row _ _ 1 _ _ h.2, frozen_of_row _ _ 2 _ _ h.2⟩
                    obtain ⟨stwo, ctwo0, ctwo1, ctwo2, ftwo0, ftwo1, ftwo2⟩ := Ftwo _ rtwo
                    have Fg : ∀ X, Row X g (.cells cur 53) → (g < X.heap.size ∧ X.cell? ⟨g, j * 5, none⟩ = some (.int .i64 (u.t : Int)) ∧ X.cell? ⟨g, j * 5 + 1, none⟩ = some (.string (S u.iv.lo.num)) ∧ X.cell? ⟨g, j * 5 + 2, none⟩ = some (.string (S (u.iv.lo.den : Int))) ∧ X.cell? ⟨g, j * 5 + 3, none⟩ = some (.string (S u.iv.hi.num)) ∧ X.cell? ⟨g, j * 5 + 4, none⟩ = some (.string (S (u.iv.hi.den : Int)))) := fun X h => ⟨h.1, Row.cell_at h _ g0, Row.cell_at h _ g1, Row.cell_at h _ g2, Row.cell_at h _ g3, Row.cell_at h _ g4⟩
                    obtain ⟨sg, cg0, cg1, cg2, cg3, cg4⟩ := Fg _ rg
                    go_wp2_with fail
                    have done_ne := rone.1
                    have dmv_ne := rmv.1
                    have dtwo_ne := rtwo.1
                    have dg_ne := rg.1
                    have d0_ne := hB.size
                    refine wp_region_late 10 [8] [.val (.agg #[.string (S r.num), .string (S (r.den : Int)), .slice p4 j c4]), .val (.slice (some ⟨g, 0, none⟩) n cA), .val (.int .i64 (j : Int)), .val (.pointer (some ⟨g, j * 5, none⟩)), .val (.agg #[.int .i64 (u.t : Int), .string (S u.iv.lo.num), .string (S (u.iv.lo.den : Int)), .string (S u.iv.hi.num), .string (S (u.iv.hi.den : Int))]), .say (SayAdd r lq), .say (SayAdd r lq), .say (SayHist r lq), .val (.int .i64 0), .say (fresh _ (.cells #[.string ⟨#[]⟩, .string ⟨#[]⟩, .slice none 0 0] 49))] [25] (by kernel_rfl) (by kernel_rfl) (by kernel_rfl) rfl ⟨SayAdd.mono _ _, ⟨SayAdd.mono _ _, ⟨SayHist.mono _ _, ⟨fresh_mono _ _, trivial⟩⟩⟩⟩ (allItems.cons (qi1 fun X h => Ftwo X (Row.below rtwo h)) (allItems.cons qi0 (allItems.cons qi0 (allItems.cons (qif hjI) (allItems.cons (qi1 fun X h => Fg X (Row.below rg h)) (allItems.cons (qi3 fun X h => MD X _ _ (PAt.below hp4 h) (he.below (hB.trans (h.mono hB.size)))) (allItems.cons (by intro ρ X qX qc qg qf qt qd; simp [depsSay, itemSp, QItem.sp, Region.binds] at qd; simp [Region.wanted, yieldedBy, quietly, QItem.sp, execOp, go_sem, foreign, qc, qt, qf, Below.refl, qd]) (allItems.cons (by intro ρ X qX qc qg qf qt qd; simp [depsSay, itemSp, QItem.sp, Region.binds] at qd; obtain ⟨p, c, e, h1, h2⟩ := qd; simp [Region.wanted, yieldedBy, quietly, QItem.sp, execOp, go_sem, foreign, qc, qt, qf, Below.refl, e]; exact ⟨p, c, rfl, h1, h2⟩) (allItems.cons (qId (by intro ρ X qX qc qg qf qt qd; simp [depsSay, itemSp, QItem.sp, Region.binds] at qd; obtain ⟨p, c, e, h1, h2⟩ := qd; simp [Region.wanted, yieldedBy, quietly, QItem.sp, execOp, go_sem, foreign, qc, qt, qf, Below.refl, e])) (allItems.cons qia trivial)))))))))) ?_
                    rintro W h1
                    clear sone cone0 cone1 cone2
                    clear smv cmv0 cmv1 cmv2 fmv0 fmv1 fmv2
                    clear stwo ctwo0 ctwo1 ctwo2 ftwo0 ftwo1 ftwo2
                    clear sg cg0 cg1 cg2 cg3 cg4
                    replace hB := hB.trans (h1.mono hB.size)
                    replace rone := Row.below rone h1
                    replace rmv := Row.below rmv h1
                    replace rtwo := Row.below rtwo h1
                    replace rg := Row.below rg h1
                    replace hp4 := PAt.below hp4 h1
                    replace hpd := PAt.below hpd h1
                    replace hpm := PAt.below hpm h1
                    replace hpA := PAt.below hpA h1
                    clear h1
                    obtain ⟨sone, cone0, cone1, cone2⟩ := Fone _ rone
                    obtain ⟨smv, cmv0, cmv1, cmv2, fmv0, fmv1, fmv2⟩ := Fmv _ rmv
                    obtain ⟨stwo, ctwo0, ctwo1, ctwo2, ftwo0, ftwo1, ftwo2⟩ := Ftwo _ rtwo
                    obtain ⟨sg, cg0, cg1, cg2, cg3, cg4⟩ := Fg _ rg
                    simp only [setItems, List.setIfInBounds_toArray, List.set_cons_succ, List.set_cons_zero, List.take_succ_cons, List.take_zero, List.drop_succ_cons, List.drop_zero]
                    rintro _ ⟨p1, c1, rfl, hp1, hc1⟩
                    rintro _ ⟨p2, c2, rfl, hp2, hc2⟩
                    rintro _ ⟨p3, c3, rfl, hp3, hc3⟩
                    rintro _ ⟨pne, rfl, hne, rne⟩
                    replace done_ne := Nat.lt_of_lt_of_le done_ne hne
                    replace dmv_ne := Nat.lt_of_lt_of_le dmv_ne hne
                    replace dtwo_ne := Nat.lt_of_lt_of_le dtwo_ne hne
                    replace dg_ne := Nat.lt_of_lt_of_le dg_ne hne
                    replace d0_ne := Nat.le_trans d0_ne hne
                    have Fne : ∀ X, Row X pne (.cells #[.string ⟨#[]⟩, .string ⟨#[]⟩, .slice none 0 0] 49) → (pne < X.heap.size ∧ X.cell? ⟨pne, 0, none⟩ = some (.string ⟨#[]⟩) ∧ X.cell? ⟨pne, 1, none⟩ = some (.string ⟨#[]⟩) ∧ X.cell? ⟨pne, 2, none⟩ = some (.slice none 0 0) ∧ X.frozen? ⟨pne, 0, none⟩ = false ∧ X.frozen? ⟨pne, 1, none⟩ = false ∧ X.frozen? ⟨pne, 2, none⟩ = false) := fun X h => ⟨h.1, Row.cell_at h 0 rfl, Row.cell_at h 1 rfl, Row.cell_at h 2 rfl, frozen_of_row _ _ 0 _ _ h.2, frozen_of_row _ _ 1 _ _ h.2, frozen_of_row _ _ 2 _ _ h.2⟩
                    obtain ⟨sne, cne0, cne1, cne2, fne0, fne1, fne2⟩ := Fne _ rne
                    intro _
                    go_wp2_with fail
                    unfold normalQ
                    clear hp1 hp2 hc1 hc2 hc3 hp4
                    go_upto_region 31 with fail
                    have sB := hB.size
                    refine wp_cut (fun X => Below w.heap.size w X ∧ Row X wA.heap.size (.cells #[.string (S r.num), .string (S (r.den : Int)), .slice sA n sC] 49) ∧ Row X (wA.heap.size + 1) (.cells #[.string (S r.num), .string (S (r.den : Int)), .slice vB n cB] 49) ∧ Row X wc.heap.size (.cells #[.string (S r.num), .string (S (r.den : Int)), .slice p4 j c4] 49) ∧ Row X g (.cells cur 53) ∧ Row X pne (.cells #[.string (S r.num), .string (S (r.den : Int)), .slice p3 lq.length c3] 49) ∧ PAt X sA d ∧ PAt X vB (laterPts y d) ∧ PAt X (some ⟨g, 0, none⟩) mm ∧ PAt X p3 lq) ⟨BW, RWk, RWk, RWk, RWk, RWk, (by first | with_reducible exact pat_set3 hpd rtwo NEH | with_reducible exact pat_set3 hpd rne NEH | exact PAt.below hpd BW), (by first | with_reducible exact pat_set3 hpm rtwo NEH | with_reducible exact pat_set3 hpm rne NEH | exact PAt.below hpm BW), (by first | with_reducible exact pat_set3 hpA rtwo NEH | with_reducible exact pat_set3 hpA rne NEH | exact PAt.below hpA BW), (by first | with_reducible exact pat_set3 hp3 rtwo NEH | with_reducible exact pat_set3 hp3 rne NEH | exact PAt.below hp3 BW)⟩ ?_
                    clear rone
                    clear sone cone0 cone1 cone2
                    clear rmv
                    clear smv cmv0 cmv1 cmv2 fmv0 fmv1 fmv2
                    clear rtwo
                    clear stwo ctwo0 ctwo1 ctwo2 ftwo0 ftwo1 ftwo2
                    clear rg
                    clear sg cg0 cg1 cg2 cg3 cg4
                    clear rne
                    clear sne cne0 cne1 cne2 fne0 fne1 fne2
                    clear hB sB hpd hpm hpA hp3
                    rintro V10 ⟨hB, rone, rmv, rtwo, rg, rne, hpd, hpm, hpA, hp3⟩
                    obtain ⟨sone, cone0, cone1, cone2⟩ := Fone _ rone
                    obtain ⟨smv, cmv0, cmv1, cmv2, fmv0, fmv1, fmv2⟩ := Fmv _ rmv
                    obtain ⟨stwo, ctwo0, ctwo1, ctwo2, ftwo0, ftwo1, ftwo2⟩ := Ftwo _ rtwo
                    obtain ⟨sg, cg0, cg1, cg2, cg3, cg4⟩ := Fg _ rg
                    clear Fne
                    have Fne : ∀ X, Row X pne (.cells #[.string (S r.num), .string (S (r.den : Int)), .slice p3 lq.length c3] 49) → (pne < X.heap.size ∧ X.cell? ⟨pne, 0, none⟩ = some (.string (S r.num)) ∧ X.cell? ⟨pne, 1, none⟩ = some (.string (S (r.den : Int))) ∧ X.cell? ⟨pne, 2, none⟩ = some (.slice p3 lq.length c3) ∧ X.frozen? ⟨pne, 0, none⟩ = false ∧ X.frozen? ⟨pne, 1, none⟩ = false ∧ X.frozen? ⟨pne, 2, none⟩ = false) := fun X h => ⟨h.1, Row.cell_at h 0 rfl, Row.cell_at h 1 rfl, Row.cell_at h 2 rfl, frozen_of_row _ _ 0 _ _ h.2, frozen_of_row _ _ 1 _ _ h.2, frozen_of_row _ _ 2 _ _ h.2⟩
                    obtain ⟨sne, cne0, cne1, cne2, fne0, fne1, fne2⟩ := Fne _ rne
                    go_wp2
                    go_roundw
                    case rel => exact ⟨j + 1, c3, p3, by go_num, by omega, by rw [← HQE.out]; exact pat_set3 hp3 rtwo NEH, pat_set3 hpd rtwo NEH, pat_set3 hpm rtwo NEH, pat_set3 hpA rtwo NEH, BW, RWk, RWk, by have h9 := HLQ.out; rw [← h9]; exact RWk⟩
                    case measure => simp [intOf]; omega
                  · obtain rfl : n = j := by omega
                    rw [HAL.out] at hp4
                    have HOm := later_ok HO hy3 HT
                    have hlm : (laterPts y d).length = n := by unfold laterPts; rw [List.length_map]; exact HN.out
                    have ht6 : t ≤ 1000000 := by omega
                    have ht7 : t + y ≤ 1000000 := by omega
                    have SM := fun W c4 p4 (h1 : PAt W sA d) (h2 : PAt W p4 d) => r12same (r := r) (l := d) sA p4 n sC c4 HN.out (by omega) W h1 h2
                    unfold BoolOk at SM
                    clear hpA HAL HOK HLN HSC HML hge hjn
                    have Fone : ∀ X, Row X wA.heap.size (.cells #[.string (S r.num), .string (S (r.den : Int)), .slice sA n sC] 49) → (wA.heap.size < X.heap.size ∧ X.cell? ⟨wA.heap.size, 0, none⟩ = some (.string (S r.num)) ∧ X.cell? ⟨wA.heap.size, 1, none⟩ = some (.string (S (r.den : Int))) ∧ X.cell? ⟨wA.heap.size, 2, none⟩ = some (.slice sA n sC)) := fun X h => ⟨h.1, Row.cell_at h 0 rfl, Row.cell_at h 1 rfl, Row.cell_at h 2 rfl⟩
                    obtain ⟨sone, cone0, cone1, cone2⟩ := Fone _ rone
                    have Fmv : ∀ X, Row X (wA.heap.size + 1) (.cells #[.string (S r.num), .string (S (r.den : Int)), .slice vB n cB] 49) → (wA.heap.size + 1 < X.heap.size ∧ X.cell? ⟨wA.heap.size + 1, 0, none⟩ = some (.string (S r.num)) ∧ X.cell? ⟨wA.heap.size + 1, 1, none⟩ = some (.string (S (r.den : Int))) ∧ X.cell? ⟨wA.heap.size + 1, 2, none⟩ = some (.slice vB n cB) ∧ X.frozen? ⟨wA.heap.size + 1, 0, none⟩ = false ∧ X.frozen? ⟨wA.heap.size + 1, 1, none⟩ = false ∧ X.frozen? ⟨wA.heap.size + 1, 2, none⟩ = false) := fun X h => ⟨h.1, Row.cell_at h 0 rfl, Row.cell_at h 1 rfl, Row.cell_at h 2 rfl, frozen_of_row _ _ 0 _ _ h.2, frozen_of_row _ _ 1 _ _ h.2, frozen_of_row _ _ 2 _ _ h.2⟩
                    obtain ⟨smv, cmv0, cmv1, cmv2, fmv0, fmv1, fmv2⟩ := Fmv _ rmv
                    have Ftwo : ∀ X, Row X wc.heap.size (.cells #[.string (S r.num), .string (S (r.den : Int)), .slice p4 n c4] 49) → (wc.heap.size < X.heap.size ∧ X.cell? ⟨wc.heap.size, 0, none⟩ = some (.string (S r.num)) ∧ X.cell? ⟨wc.heap.size, 1, none⟩ = some (.string (S (r.den : Int))) ∧ X.cell? ⟨wc.heap.size, 2, none⟩ = some (.slice p4 n c4) ∧ X.frozen? ⟨wc.heap.size, 0, none⟩ = false ∧ X.frozen? ⟨wc.heap.size, 1, none⟩ = false ∧ X.frozen? ⟨wc.heap.size, 2, none⟩ = false) := fun X h => ⟨h.1, Row.cell_at h 0 rfl, Row.cell_at h 1 rfl, Row.cell_at h 2 rfl, frozen_of_row _ _ 0 _ _ h.2, frozen_of_row _ _ 1 _ _ h.2, frozen_of_row _ _ 2 _ _ h.2⟩
                    obtain ⟨stwo, ctwo0, ctwo1, ctwo2, ftwo0, ftwo1, ftwo2⟩ := Ftwo _ rtwo
                    by_cases hx : 0 < n ∧ Free ⟨r, d⟩
                    · obtain ⟨hn1, hfr⟩ := hx
                      have hne : d ≠ [] := by intro h; have := HN.out; rw [h] at this; simp at this; omega
                      obtain ⟨o, ko⟩ := exists_knows ⟨r, d⟩ t hne
                      have DA := fun W p c (hp : PAt W p d) (H : Env W) => dat_known HO hfr ko ht6 p n c HN.out hn1 W hp H
                      have DB := fun W p c (hp : PAt W p (laterPts y d)) (H : Env W) => dat_known HOm ((Free.later y).2 hfr) (Knows.later_iff (k := y) ko) ht7 p n c hlm hn1 W hp H
                      simp only [Int.natCast_add] at DB
                      clear hne ko hfr
                      go_wp2_with fail
                      refine (DA _ _ _ hpd (he.below hB)).mono ?_
                      rintro e W10 ⟨rfl, h1⟩
                      clear sone cone0 cone1 cone2
                      clear smv cmv0 cmv1 cmv2 fmv0 fmv1 fmv2
                      clear stwo ctwo0 ctwo1 ctwo2 ftwo0 ftwo1 ftwo2
                      replace hB := hB.trans (h1.mono hB.size)
                      replace rone := Row.below rone h1
                      replace rmv := Row.below rmv h1
                      replace rtwo := Row.below rtwo h1
                      replace hp4 := PAt.below hp4 h1
                      replace hpd := PAt.below hpd h1
                      replace hpm := PAt.below hpm h1
                      clear h1
                      obtain ⟨sone, cone0, cone1, cone2⟩ := Fone _ rone
                      obtain ⟨smv, cmv0, cmv1, cmv2, fmv0, fmv1, fmv2⟩ := Fmv _ rmv
                      obtain ⟨stwo, ctwo0, ctwo1, ctwo2, ftwo0, ftwo1, ftwo2⟩ := Ftwo _ rtwo
                      go_wp2_with fail
                      have dmv_xa : wA.heap.size + 1 < W10.heap.size := by omega
                      have dtwo_xa : wc.heap.size < W10.heap.size := by omega
                      have sB := hB.size
                      refine world_cut (fun X => Below w.heap.size w X ∧ Row X wA.heap.size (.cells #[.string (S r.num), .string (S (r.den : Int)), .slice sA n sC] 49) ∧ Row X (wA.heap.size + 1) (.cells #[.string (S r.num), .string (S (r.den : Int)), .slice vB n cB] 49) ∧ Row X wc.heap.size (.cells #[.string (S r.num), .string (S (r.den : Int)), .slice p4 n c4] 49) ∧ Row X W10.heap.size (.cells #[.string (S o.lo.num), .string (S (o.lo.den : Int)), .string (S o.hi.num), .string (S (o.hi.den : Int))] 29) ∧ PAt X p4 d ∧ PAt X sA d ∧ PAt X vB (laterPts y d)) ⟨BW, RWk, RWk, RWk, RWk, (by first | exact PAt.below hp4 BW), (by first | exact PAt.below hpd BW), (by first | exact PAt.below hpm BW)⟩ ?_
                      clear rone
                      clear sone cone0 cone1 cone2
                      clear rmv
                      clear smv cmv0 cmv1 cmv2 fmv0 fmv1 fmv2
                      clear rtwo
                      clear stwo ctwo0 ctwo1 ctwo2 ftwo0 ftwo1 ftwo2
                      clear hB sB hp4 hpd hpm
                      rintro V11 ⟨hB, rone, rmv, rtwo, rxa, hp4, hpd, hpm⟩
                      obtain ⟨sone, cone0, cone1, cone2⟩ := Fone _ rone
                      obtain ⟨smv, cmv0, cmv1, cmv2, fmv0, fmv1, fmv2⟩ := Fmv _ rmv
                      obtain ⟨stwo, ctwo0, ctwo1, ctwo2, ftwo0, ftwo1, ftwo2⟩ := Ftwo _ rtwo
                      have Fxa : ∀ X, Row X W10.heap.size (.cells #[.string (S o.lo.num), .string (S (o.lo.den : Int)), .string (S o.hi.num), .string (S (o.hi.den : Int))] 29) → (W10.heap.size < X.heap.size ∧ X.cell? ⟨W10.heap.size, 0, none⟩ = some (.string (S o.lo.num)) ∧ X.cell? ⟨W10.heap.size, 1, none⟩ = some (.string (S (o.lo.den : Int))) ∧ X.cell? ⟨W10.heap.size, 2, none⟩ = some (.string (S o.hi.num)) ∧ X.cell? ⟨W10.heap.size, 3, none⟩ = some (.string (S (o.hi.den : Int)))) := fun X h => ⟨h.1, Row.cell_at h 0 rfl, Row.cell_at h 1 rfl, Row.cell_at h 2 rfl, Row.cell_at h 3 rfl⟩
                      obtain ⟨sxa, cxa0, cxa1, cxa2, cxa3⟩ := Fxa _ rxa
                      refine (DB _ _ _ hpm (he.below hB)).mono ?_
                      rintro e W12 ⟨rfl, h1⟩
                      clear sone cone0 cone1 cone2
                      clear smv cmv0 cmv1 cmv2 fmv0 fmv1 fmv2
                      clear stwo ctwo0 ctwo1 ctwo2 ftwo0 ftwo1 ftwo2
                      clear sxa cxa0 cxa1 cxa2 cxa3
                      replace hB := hB.trans (h1.mono hB.size)
                      replace rone := Row.below rone h1
                      replace rmv := Row.below rmv h1
                      replace rtwo := Row.below rtwo h1
                      replace rxa := Row.below rxa h1
                      replace hp4 := PAt.below hp4 h1
                      replace hpd := PAt.below hpd h1
                      replace hpm := PAt.below hpm h1
                      clear h1
                      obtain ⟨sone, cone0, cone1, cone2⟩ := Fone _ rone
                      obtain ⟨smv, cmv0, cmv1, cmv2, fmv0, fmv1, fmv2⟩ := Fmv _ rmv
                      obtain ⟨stwo, ctwo0, ctwo1, ctwo2, ftwo0, ftwo1, ftwo2⟩ := Ftwo _ rtwo
                      obtain ⟨sxa, cxa0, cxa1, cxa2, cxa3⟩ := Fxa _ rxa
                      go_upto_region 36 with fail
                      have dmv_xb : wA.heap.size + 1 < W12.heap.size := by omega
                      have dtwo_xb : wc.heap.size < W12.heap.size := by omega
                      have sB := hB.size
                      refine wp_cut (fun X => Below w.heap.size w X ∧ Row X wA.heap.size (.cells #[.string (S r.num), .string (S (r.den : Int)), .slice sA n sC] 49) ∧ Row X (wA.heap.size + 1) (.cells #[.string (S r.num), .string (S (r.den : Int)), .slice vB n cB] 49) ∧ Row X wc.heap.size (.cells #[.string (S r.num), .string (S (r.den : Int)), .slice p4 n c4] 49) ∧ Row X W10.heap.size (.cells #[.string (S o.lo.num), .string (S (o.lo.den : Int)), .string (S o.hi.num), .string (S (o.hi.den : Int))] 29) ∧ Row X W12.heap.size (.cells #[.string (S o.lo.num), .string (S (o.lo.den : Int)), .string (S o.hi.num), .string (S (o.hi.den : Int))] 29) ∧ PAt X p4 d ∧ PAt X sA d ∧ PAt X vB (laterPts y d)) ⟨BW, RWk, RWk, RWk, RWk, RWk, (by first | exact PAt.below hp4 BW), (by first | exact PAt.below hpd BW), (by first | exact PAt.below hpm BW)⟩ ?_
                      clear rone
                      clear sone cone0 cone1 cone2
                      clear rmv
                      clear smv cmv0 cmv1 cmv2 fmv0 fmv1 fmv2
                      clear rtwo
                      clear stwo ctwo0 ctwo1 ctwo2 ftwo0 ftwo1 ftwo2
                      clear rxa
                      clear sxa cxa0 cxa1 cxa2 cxa3
                      clear hB sB hp4 hpd hpm
                      rintro V13 ⟨hB, rone, rmv, rtwo, rxa, rxb, hp4, hpd, hpm⟩
                      obtain ⟨sone, cone0, cone1, cone2⟩ := Fone _ rone
                      obtain ⟨smv, cmv0, cmv1, cmv2, fmv0, fmv1, fmv2⟩ := Fmv _ rmv
                      obtain ⟨stwo, ctwo0, ctwo1, ctwo2, ftwo0, ftwo1, ftwo2⟩ := Ftwo _ rtwo
                      obtain ⟨sxa, cxa0, cxa1, cxa2, cxa3⟩ := Fxa _ rxa
                      have Fxb : ∀ X, Row X W12.heap.size (.cells #[.string (S o.lo.num), .string (S (o.lo.den : Int)), .string (S o.hi.num), .string (S (o.hi.den : Int))] 29) → (W12.heap.size < X.heap.size ∧ X.cell? ⟨W12.heap.size, 0, none⟩ = some (.string (S o.lo.num)) ∧ X.cell? ⟨W12.heap.size, 1, none⟩ = some (.string (S (o.lo.den : Int))) ∧ X.cell? ⟨W12.heap.size, 2, none⟩ = some (.string (S o.hi.num)) ∧ X.cell? ⟨W12.heap.size, 3, none⟩ = some (.string (S (o.hi.den : Int)))) := fun X h => ⟨h.1, Row.cell_at h 0 rfl, Row.cell_at h 1 rfl, Row.cell_at h 2 rfl, Row.cell_at h 3 rfl⟩
                      obtain ⟨sxb, cxb0, cxb1, cxb2, cxb3⟩ := Fxb _ rxb
                      refine wp_region_vals_seq [.bool true, .bool true, .agg #[.string (S r.num), .string (S (r.den : Int)), .slice sA n sC], .agg #[.string (S r.num), .string (S (r.den : Int)), .slice p4 n c4], .bool true, .bool true, .bool true, .agg #[.string (S o.lo.num), .string (S (o.lo.den : Int)), .string (S o.hi.num), .string (S (o.hi.den : Int))], .agg #[.string (S o.lo.num), .string (S (o.lo.den : Int)), .string (S o.hi.num), .string (S (o.hi.den : Int))], .bool true, .bool true, .bool true, .int .i64 0, .int .i64 0, .bool true, .bool true, .bool true] (by kernel_rfl) rfl (allVals.cons qv0 (allVals.cons qv0 (allVals.cons (qv1 fun X h => Fone X (Row.below rone h)) (allVals.cons (qv1 fun X h => Ftwo X (Row.below rtwo h)) (allVals.cons (qv2 fun X h => SM X _ _ (PAt.below hpd h) (PAt.below hp4 h)) (allVals.cons qv0 (allVals.cons qv0 (allVals.cons (qv1 fun X h => Fxa X (Row.below rxa h)) (allVals.cons (qv1 fun X h => Fxb X (Row.below rxb h)) (allVals.cons qv0 (allVals.cons qv0 (allVals.cons qv0 (allVals.cons qv0 (allVals.cons qv0 (allVals.cons qv0 (allVals.cons qv0 (allVals.cons qv0 trivial))))))))))))))))) ?_
                      rintro W h1
                      clear sone cone0 cone1 cone2
                      clear smv cmv0 cmv1 cmv2 fmv0 fmv1 fmv2
                      clear stwo ctwo0 ctwo1 ctwo2 ftwo0 ftwo1 ftwo2
                      clear sxa cxa0 cxa1 cxa2 cxa3
                      clear sxb cxb0 cxb1 cxb2 cxb3
                      replace hB := hB.trans (h1.mono hB.size)
                      replace rone := Row.below rone h1
                      replace rmv := Row.below rmv h1
                      replace rtwo := Row.below rtwo h1
                      replace rxa := Row.below rxa h1
                      replace rxb := Row.below rxb h1
                      replace hp4 := PAt.below hp4 h1
                      replace hpd := PAt.below hpd h1
                      replace hpm := PAt.below hpm h1
                      clear h1
                      obtain ⟨sone, cone0, cone1, cone2⟩ := Fone _ rone
                      obtain ⟨smv, cmv0, cmv1, cmv2, fmv0, fmv1, fmv2⟩ := Fmv _ rmv
                      obtain ⟨stwo, ctwo0, ctwo1, ctwo2, ftwo0, ftwo1, ftwo2⟩ := Ftwo _ rtwo
                      obtain ⟨sxa, cxa0, cxa1, cxa2, cxa3⟩ := Fxa _ rxa
                      obtain ⟨sxb, cxb0, cxb1, cxb2, cxb3⟩ := Fxb _ rxb
                      simp only [setVals, List.setIfInBounds_toArray, List.set_cons_succ, List.set_cons_zero]
                      go_wp2
                      go_ret
                      exact ⟨rfl, BW⟩
                    · have DA := fun W p c (hp : PAt W p d) (H : Env W) => dat_off HO (t := t) ht6 p n c HN.out hx W hp H
                      have DB := fun W p c (hp : PAt W p (laterPts y d)) (H : Env W) => dat_off HOm (t := t + y) ht7 p n c hlm (fun h => hx ⟨h.1, (Free.later y).1 h.2⟩) W hp H
                      unfold AtErr at DA DB
                      simp only [Int.natCast_add] at DB
                      have HXN := Lib.hid hx
                      clear hx
                      go_wp2_with fail
                      refine (DA _ _ _ hpd (he.below hB)).mono ?_
                      rintro e W10 ⟨rfl, h1⟩
                      clear sone cone0 cone1 cone2
                      clear smv cmv0 cmv1 cmv2 fmv0 fmv1 fmv2
                      clear stwo ctwo0 ctwo1 ctwo2 ftwo0 ftwo1 ftwo2
                      replace hB := hB.trans (h1.mono hB.size)
                      replace rone := Row.below rone h1
                      replace rmv := Row.below rmv h1
                      replace rtwo := Row.below rtwo h1
                      replace hp4 := PAt.below hp4 h1
                      replace hpd := PAt.below hpd h1
                      replace hpm := PAt.below hpm h1
                      clear h1
                      obtain ⟨sone, cone0, cone1, cone2⟩ := Fone _ rone
                      obtain ⟨smv, cmv0, cmv1, cmv2, fmv0, fmv1, fmv2⟩ := Fmv _ rmv
                      obtain ⟨stwo, ctwo0, ctwo1, ctwo2, ftwo0, ftwo1, ftwo2⟩ := Ftwo _ rtwo
                      go_wp2_with fail
                      have dmv_xa : wA.heap.size + 1 < W10.heap.size := by omega
                      have dtwo_xa : wc.heap.size < W10.heap.size := by omega
                      have sB := hB.size
                      refine world_cut (fun X => Below w.heap.size w X ∧ Row X wA.heap.size (.cells #[.string (S r.num), .string (S (r.den : Int)), .slice sA n sC] 49) ∧ Row X (wA.heap.size + 1) (.cells #[.string (S r.num), .string (S (r.den : Int)), .slice vB n cB] 49) ∧ Row X wc.heap.size (.cells #[.string (S r.num), .string (S (r.den : Int)), .slice p4 n c4] 49) ∧ Row X W10.heap.size (.cells #[.string ⟨#[]⟩, .string ⟨#[]⟩, .string ⟨#[]⟩, .string ⟨#[]⟩] 29) ∧ PAt X p4 d ∧ PAt X sA d ∧ PAt X vB (laterPts y d)) ⟨BW, RWk, RWk, RWk, RWk, (by first | exact PAt.below hp4 BW), (by first | exact PAt.below hpd BW), (by first | exact PAt.below hpm BW)⟩ ?_
                      clear rone
                      clear sone cone0 cone1 cone2
                      clear rmv
                      clear smv cmv0 cmv1 cmv2 fmv0 fmv1 fmv2
                      clear rtwo
                      clear stwo ctwo0 ctwo1 ctwo2 ftwo0 ftwo1 ftwo2
                      clear hB sB hp4 hpd hpm
                      rintro V11 ⟨hB, rone, rmv, rtwo, rxa, hp4, hpd, hpm⟩
                      obtain ⟨sone, cone0, cone1, cone2⟩ := Fone _ rone
                      obtain ⟨smv, cmv0, cmv1, cmv2, fmv0, fmv1, fmv2⟩ := Fmv _ rmv
                      obtain ⟨stwo, ctwo0, ctwo1, ctwo2, ftwo0, ftwo1, ftwo2⟩ := Ftwo _ rtwo
                      have Fxa : ∀ X, Row X W10.heap.size (.cells #[.string ⟨#[]⟩, .string ⟨#[]⟩, .string ⟨#[]⟩, .string ⟨#[]⟩] 29) → (W10.heap.size < X.heap.size ∧ X.cell? ⟨W10.heap.size, 0, none⟩ = some (.string ⟨#[]⟩) ∧ X.cell? ⟨W10.heap.size, 1, none⟩ = some (.string ⟨#[]⟩) ∧ X.cell? ⟨W10.heap.size, 2, none⟩ = some (.string ⟨#[]⟩) ∧ X.cell? ⟨W10.heap.size, 3, none⟩ = some (.string ⟨#[]⟩)) := fun X h => ⟨h.1, Row.cell_at h 0 rfl, Row.cell_at h 1 rfl, Row.cell_at h 2 rfl, Row.cell_at h 3 rfl⟩
                      obtain ⟨sxa, cxa0, cxa1, cxa2, cxa3⟩ := Fxa _ rxa
                      refine (DB _ _ _ hpm (he.below hB)).mono ?_
                      rintro e W12 ⟨rfl, h1⟩
                      clear sone cone0 cone1 cone2
                      clear smv cmv0 cmv1 cmv2 fmv0 fmv1 fmv2
                      clear stwo ctwo0 ctwo1 ctwo2 ftwo0 ftwo1 ftwo2
                      clear sxa cxa0 cxa1 cxa2 cxa3
                      replace hB := hB.trans (h1.mono hB.size)
                      replace rone := Row.below rone h1
                      replace rmv := Row.below rmv h1
                      replace rtwo := Row.below rtwo h1
                      replace rxa := Row.below rxa h1
                      replace hp4 := PAt.below hp4 h1
                      replace hpd := PAt.below hpd h1
                      replace hpm := PAt.below hpm h1
                      clear h1
                      obtain ⟨sone, cone0, cone1, cone2⟩ := Fone _ rone
                      obtain ⟨smv, cmv0, cmv1, cmv2, fmv0, fmv1, fmv2⟩ := Fmv _ rmv
                      obtain ⟨stwo, ctwo0, ctwo1, ctwo2, ftwo0, ftwo1, ftwo2⟩ := Ftwo _ rtwo
                      obtain ⟨sxa, cxa0, cxa1, cxa2, cxa3⟩ := Fxa _ rxa
                      go_upto_region 36 with fail
                      have dmv_xb : wA.heap.size + 1 < W12.heap.size := by omega
                      have dtwo_xb : wc.heap.size < W12.heap.size := by omega
                      have sB := hB.size
                      refine wp_cut (fun X => Below w.heap.size w X ∧ Row X wA.heap.size (.cells #[.string (S r.num), .string (S (r.den : Int)), .slice sA n sC] 49) ∧ Row X (wA.heap.size + 1) (.cells #[.string (S r.num), .string (S (r.den : Int)), .slice vB n cB] 49) ∧ Row X wc.heap.size (.cells #[.string (S r.num), .string (S (r.den : Int)), .slice p4 n c4] 49) ∧ Row X W10.heap.size (.cells #[.string ⟨#[]⟩, .string ⟨#[]⟩, .string ⟨#[]⟩, .string ⟨#[]⟩] 29) ∧ Row X W12.heap.size (.cells #[.string ⟨#[]⟩, .string ⟨#[]⟩, .string ⟨#[]⟩, .string ⟨#[]⟩] 29) ∧ PAt X p4 d ∧ PAt X sA d ∧ PAt X vB (laterPts y d)) ⟨BW, RWk, RWk, RWk, RWk, RWk, (by first | exact PAt.below hp4 BW), (by first | exact PAt.below hpd BW), (by first | exact PAt.below hpm BW)⟩ ?_
                      clear rone
                      clear sone cone0 cone1 cone2
                      clear rmv
                      clear smv cmv0 cmv1 cmv2 fmv0 fmv1 fmv2
                      clear rtwo
                      clear stwo ctwo0 ctwo1 ctwo2 ftwo0 ftwo1 ftwo2
                      clear rxa
                      clear sxa cxa0 cxa1 cxa2 cxa3
                      clear hB sB hp4 hpd hpm
                      rintro V13 ⟨hB, rone, rmv, rtwo, rxa, rxb, hp4, hpd, hpm⟩
                      obtain ⟨sone, cone0, cone1, cone2⟩ := Fone _ rone
                      obtain ⟨smv, cmv0, cmv1, cmv2, fmv0, fmv1, fmv2⟩ := Fmv _ rmv
                      obtain ⟨stwo, ctwo0, ctwo1, ctwo2, ftwo0, ftwo1, ftwo2⟩ := Ftwo _ rtwo
                      obtain ⟨sxa, cxa0, cxa1, cxa2, cxa3⟩ := Fxa _ rxa
                      have Fxb : ∀ X, Row X W12.heap.size (.cells #[.string ⟨#[]⟩, .string ⟨#[]⟩, .string ⟨#[]⟩, .string ⟨#[]⟩] 29) → (W12.heap.size < X.heap.size ∧ X.cell? ⟨W12.heap.size, 0, none⟩ = some (.string ⟨#[]⟩) ∧ X.cell? ⟨W12.heap.size, 1, none⟩ = some (.string ⟨#[]⟩) ∧ X.cell? ⟨W12.heap.size, 2, none⟩ = some (.string ⟨#[]⟩) ∧ X.cell? ⟨W12.heap.size, 3, none⟩ = some (.string ⟨#[]⟩)) := fun X h => ⟨h.1, Row.cell_at h 0 rfl, Row.cell_at h 1 rfl, Row.cell_at h 2 rfl, Row.cell_at h 3 rfl⟩
                      obtain ⟨sxb, cxb0, cxb1, cxb2, cxb3⟩ := Fxb _ rxb
                      refine wp_region_vals_seq [.bool true, .bool true, .agg #[.string (S r.num), .string (S (r.den : Int)), .slice sA n sC], .agg #[.string (S r.num), .string (S (r.den : Int)), .slice p4 n c4], .bool true, .bool true, .bool true, .agg #[.string ⟨#[]⟩, .string ⟨#[]⟩, .string ⟨#[]⟩, .string ⟨#[]⟩], .agg #[.string ⟨#[]⟩, .string ⟨#[]⟩, .string ⟨#[]⟩, .string ⟨#[]⟩], .bool true, .bool true, .bool true, .int .i64 120, .int .i64 120, .bool true, .bool true, .bool true] (by kernel_rfl) rfl (allVals.cons qv0 (allVals.cons qv0 (allVals.cons (qv1 fun X h => Fone X (Row.below rone h)) (allVals.cons (qv1 fun X h => Ftwo X (Row.below rtwo h)) (allVals.cons (qv2 fun X h => SM X _ _ (PAt.below hpd h) (PAt.below hp4 h)) (allVals.cons qv0 (allVals.cons qv0 (allVals.cons (qv1 fun X h => Fxa X (Row.below rxa h)) (allVals.cons (qv1 fun X h => Fxb X (Row.below rxb h)) (allVals.cons qv0 (allVals.cons qv0 (allVals.cons qv0 (allVals.cons qv0 (allVals.cons qv0 (allVals.cons qv0 (allVals.cons qv0 (allVals.cons qv0 trivial))))))))))))))))) ?_
                      rintro W h1
                      clear sone cone0 cone1 cone2
                      clear smv cmv0 cmv1 cmv2 fmv0 fmv1 fmv2
                      clear stwo ctwo0 ctwo1 ctwo2 ftwo0 ftwo1 ftwo2
                      clear sxa cxa0 cxa1 cxa2 cxa3
                      clear sxb cxb0 cxb1 cxb2 cxb3
                      replace hB := hB.trans (h1.mono hB.size)
                      replace rone := Row.below rone h1
                      replace rmv := Row.below rmv h1
                      replace rtwo := Row.below rtwo h1
                      replace rxa := Row.below rxa h1
                      replace rxb := Row.below rxb h1
                      replace hp4 := PAt.below hp4 h1
                      replace hpd := PAt.below hpd h1
                      replace hpm := PAt.below hpm h1
                      clear h1
                      obtain ⟨sone, cone0, cone1, cone2⟩ := Fone _ rone
                      obtain ⟨smv, cmv0, cmv1, cmv2, fmv0, fmv1, fmv2⟩ := Fmv _ rmv
                      obtain ⟨stwo, ctwo0, ctwo1, ctwo2, ftwo0, ftwo1, ftwo2⟩ := Ftwo _ rtwo
                      obtain ⟨sxa, cxa0, cxa1, cxa2, cxa3⟩ := Fxa _ rxa
                      obtain ⟨sxb, cxb0, cxb1, cxb2, cxb3⟩ := Fxb _ rxb
                      simp only [setVals, List.setIfInBounds_toArray, List.set_cons_succ, List.set_cons_zero]
                      go_wp2
                      go_ret
                      exact ⟨rfl, BW⟩
end Go.Proofs.YtngohpgkceedeaaGreatDoor
