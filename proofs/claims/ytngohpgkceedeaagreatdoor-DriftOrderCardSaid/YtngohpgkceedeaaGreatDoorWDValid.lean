/-
  Package enclosure: Valid, Contains, Within; that all intervals of a slice are valid. drift.Valid: of valid histories, and of the empty one.
-/
import Derived.Test.YtngohpgkceedeaaGreatDoorWDSmall
import Derived.Test.YtngohpgkceedeaaGreatDoorWQPlain7
import Derived.Test.YtngohpgkceedeaaGreatDoorWTail
set_option linter.unusedSimpArgs false
set_option linter.unusedVariables false
namespace Go.Proofs.YtngohpgkceedeaaGreatDoor
open Go Go.RowKit Go.Lib Go.Shelf

set_option maxRecDepth 100000 in
set_option maxHeartbeats 4000000 in
theorem evalid (a : Iv) (ha : IDig 200 a) (w : World) (he : Env w) : Calls Tryz.prog 54 #[I a] w (BoolOk (decide (a.lo ≤ a.hi)) w) := by
  have hB : Below w.heap.size w w := Below.refl _ _
  have h1 := fun W (h : Env W) => qvalid a.lo ha.1 W h
  have h2 := fun W (h : Env W) => qvalid a.hi ha.2 W h
  have h3 := fun W (h : Env W) => qcompare a.lo a.hi ha.1 ha.2 W h
  have dc : ∀ c, decide (cmpQ a.lo a.hi ≤ 0) = c → decide (a.lo ≤ a.hi) = c := fun c h => by rw [← h]; exact decide_eq_decide.2 cmpQ_le.symm
  generalize decide (a.lo ≤ a.hi) = c at *
  generalize cmpQ a.lo a.hi = g at *
  show Calls Tryz.prog 54 #[.agg #[.string (S a.lo.num), .string (S (a.lo.den : Int)), .string (S a.hi.num), .string (S (a.hi.den : Int))]] w _
  go_enter Tryz.func54, Tryz.ntmps54
  go_wp2_with fail
  have sB := hB.size
  refine world_cut (fun X => Below w.heap.size w X ∧ Row X w.heap.size (.cells #[.string (S a.lo.num), .string (S (a.lo.den : Int)), .string (S a.hi.num), .string (S (a.hi.den : Int))] 29)) ⟨C1_hB, C2⟩ ?_
  clear hB sB
  rintro V1 ⟨hB, ra⟩
  obtain ⟨sa, ca0, ca1, ca2, ca3, fa0, fa1, fa2, fa3⟩ := Row.cells4 ra
  refine (h1 _ (he.below hB)).mono ?_
  rintro e W2 ⟨rfl, h1⟩
  clear sa ca0 ca1 ca2 ca3 fa0 fa1 fa2 fa3
  replace hB := hB.trans (h1.mono hB.size)
  replace ra := Row.below ra h1
  clear h1
  obtain ⟨sa, ca0, ca1, ca2, ca3, fa0, fa1, fa2, fa3⟩ := Row.cells4 ra
  go_wp2_with fail
  refine (h2 _ (he.below hB)).mono ?_
  rintro e W3 ⟨rfl, h1⟩
  clear sa ca0 ca1 ca2 ca3 fa0 fa1 fa2 fa3
  replace hB := hB.trans (h1.mono hB.size)
  replace ra := Row.below ra h1
  clear h1
  obtain ⟨sa, ca0, ca1, ca2, ca3, fa0, fa1, fa2, fa3⟩ := Row.cells4 ra
  go_wp2_with fail
  refine (h3 _ (he.below hB)).mono ?_
  rintro e W4 ⟨rfl, h1⟩
  clear sa ca0 ca1 ca2 ca3 fa0 fa1 fa2 fa3
  replace hB := hB.trans (h1.mono hB.size)
  replace ra := Row.below ra h1
  clear h1
  obtain ⟨sa, ca0, ca1, ca2, ca3, fa0, fa1, fa2, fa3⟩ := Row.cells4 ra
  go_wp2
  go_ret
  exact ⟨by rw [dc _ rfl]; rfl, hB⟩
theorem Q_zero : Q 0 = .agg #[.string ⟨#[48]⟩, .string ⟨#[49]⟩] := by
  show Value.agg #[.string (S 0), .string (S 1)] = _
  rw [S_zero, S_one]
end Go.Proofs.YtngohpgkceedeaaGreatDoor
namespace Go.Proofs.YtngohpgkceedeaaGreatDoor
open Go Go.RowKit Go.Lib Go.Shelf

theorem drop_sorted {l : List Pt} (hs : l.Pairwise fun a b => a.t ≤ b.t) {i : Nat} (hi : i < l.length) : ∀ q ∈ l.drop (i + 1), (ptD l i).t ≤ q.t := by
  have e : l.drop i = ptD l i :: l.drop (i + 1) := by
    have : ptD l i = l[i] := by unfold ptD; rw [List.getD_eq_getElem?_getD, List.getElem?_eq_getElem hi]; rfl
    rw [this, List.drop_eq_getElem_cons hi]
  have h := hs.sublist (List.drop_sublist i l)
  rw [e, List.pairwise_cons] at h
  exact h.1
theorem ptD_drop {l : List Pt} {i : Nat} (hi : i < l.length) : ptD l i ∈ l.drop i := by
  have : ptD l i = l[i] := by unfold ptD; rw [List.getD_eq_getElem?_getD, List.getElem?_eq_getElem hi]; rfl
  rw [this, List.drop_eq_getElem_cons hi]; exact List.mem_cons_self
theorem PAt.at {W : World} {p : Option Addr} {l : List Pt} (h : PAt W p l) {i : Nat} (hi : i < l.length) : ∃ g cur, p = some ⟨g, 0, none⟩ ∧ Row W g (.cells cur 53)
    ∧ cur[i * 5]? = some (.int .i64 ((ptD l i).t : Int)) ∧ cur[i * 5 + 1]? = some (.string (S (ptD l i).iv.lo.num)) ∧ cur[i * 5 + 2]? = some (.string (S ((ptD l i).iv.lo.den : Int)))
    ∧ cur[i * 5 + 3]? = some (.string (S (ptD l i).iv.hi.num)) ∧ cur[i * 5 + 4]? = some (.string (S ((ptD l i).iv.hi.den : Int))) := by
  rcases h with ⟨rfl, _⟩ | ⟨g, cur, rfl, hr, hx⟩
  · simp at hi
  · have key : ∀ j, j < 5 → cur[i * 5 + j]? = (pC (ptD l i))[j]? := fun j hj => by
      rw [← pCells_get hi j hj, ← hx, List.getElem?_take, if_pos (by omega), Array.getElem?_toList]
    exact ⟨g, cur, rfl, hr, key 0 (by omega), key 1 (by omega), key 2 (by omega), key 3 (by omega), key 4 (by omega)⟩
theorem qdig0 (k : Nat) (hk : 0 < k) : QDig k (0 : Rat) := QDig.mono (j := 1) (by unfold QDig Dig; decide +kernel) hk
set_option maxRecDepth 100000 in
set_option maxHeartbeats 16000000 in
theorem dvalid {h : Hist} (ho : h.Ok) (p : Option Addr) (n c : Nat) (hn : h.pts.length = n) (w : World) (hp : PAt w p h.pts) (he : Env w) : Calls Tryz.prog 42 #[HV h (.slice p n c)] w (BoolOk true w) := by
  have hB : Below w.heap.size w w := Below.refl _ _
  have MS := fun W (h : Env W) => dshort ho.rdig W h
  have MC := fun W (H : Env W) => qcompare h.rate 0 (ho.rdig.mono (by omega)) (qdig0 200 (by omega)) W H
  have hc : 0 ≤ cmpQ h.rate 0 := cmpQ_ge.2 ho.rate
  have hfew := ho.few
  have KEY := Lib.hid (And.intro ho.sorted (And.intro ho.times ho.ivs))
  have HP := Lib.hid hp
  unfold BoolOk CmpOk at *
  rw [Q_zero] at MC
  unfold Q at MS MC
  unfold HV
  clear ho hp
  generalize cmpQ h.rate 0 = cm at *
  have HC := Lib.hid hc
  have hc0 : decide (cm < 0) = false := decide_eq_false (by omega)
  clear hc
  have hln : h.pts.length = n := hn
  rw [hln] at hfew
  have HN := Lib.hid hln
  clear hln hn
  generalize h.pts = l at *
  generalize h.rate = rt at *
  go_enter Tryz.func42, Tryz.ntmps42
  go_wp2_with fail
  have sB := hB.size
  refine world_cut (fun X => Below w.heap.size w X ∧ Row X w.heap.size (.cells #[.string (S rt.num), .string (S (rt.den : Int)), .slice p n c] 49)) ⟨BW, RW⟩ ?_
  clear hB sB
  rintro V1 ⟨hB, rh⟩
  have Fh : ∀ X, Row X w.heap.size (.cells #[.string (S rt.num), .string (S (rt.den : Int)), .slice p n c] 49) → (w.heap.size < X.heap.size ∧ X.cell? ⟨w.heap.size, 0, none⟩ = some (.string (S rt.num)) ∧ X.cell? ⟨w.heap.size, 1, none⟩ = some (.string (S (rt.den : Int))) ∧ X.cell? ⟨w.heap.size, 2, none⟩ = some (.slice p n c)) := fun X h => ⟨h.1, Row.cell_at h 0 rfl, Row.cell_at h 1 rfl, Row.cell_at h 2 rfl⟩
  obtain ⟨sh, ch0, ch1, ch2⟩ := Fh _ rh
  refine (MS _ (he.below hB)).mono ?_
  rintro e W2 ⟨rfl, h1⟩
  clear sh ch0 ch1 ch2
  replace hB := hB.trans (h1.mono hB.size)
  replace rh := Row.below rh h1
  clear h1
  obtain ⟨sh, ch0, ch1, ch2⟩ := Fh _ rh
  go_wp2_with fail
  refine (MC _ (he.below hB)).mono ?_
  rintro e W3 ⟨rfl, h1⟩
  clear sh ch0 ch1 ch2
  replace hB := hB.trans (h1.mono hB.size)
  replace rh := Row.below rh h1
  clear h1
  obtain ⟨sh, ch0, ch1, ch2⟩ := Fh _ rh
  go_wp2_with fail
  clear rh
  clear sh ch0 ch1 ch2
  clear Fh
  go_loopw [3, 26] (fun v3 v26 wr => ∃ i t : Nat, v26 = .int .i64 (i : Int) ∧ v3 = .int .i64 (t : Int) ∧ i ≤ n ∧ Hid (∀ r ∈ l.drop i, t ≤ r.t) ∧ Below w.heap.size w wr) (fun _ v26 _ => (n - intOf v26).toNat)
  case atStart => exact ⟨0, 0, rfl, rfl, by omega, Lib.hid (fun r _ => Nat.zero_le _), hB⟩
  case round =>
    clear hB
    obtain ⟨i, t, rfl, rfl, hin, ht, hB⟩ := hrel
    rcases Nat.lt_or_ge i n with hlt | hge
    · have hlt' : i < l.length := by rw [HN.out]; exact hlt
      obtain ⟨q, hq⟩ : ∃ q, q = ptD l i := ⟨_, rfl⟩
      have hm : q ∈ l := hq ▸ ptD_mem hlt'
      have h1 : t ≤ q.t := ht.out q (hq ▸ ptD_drop hlt')
      have h2 : q.t ≤ 1000000 := KEY.out.2.1 q hm
      obtain ⟨h3, h4⟩ := KEY.out.2.2 q hm
      have MV := fun W (h : Env W) => evalid q.iv (h4.mono (by omega)) W h
      have M1 := fun W (h : Env W) => dshort h4.1 W h
      have M2 := fun W (h : Env W) => dshort h4.2 W h
      have h5 : decide (q.iv.lo ≤ q.iv.hi) = true := decide_eq_true h3
      rw [h5] at MV
      have ht2 := Lib.hid (hq ▸ drop_sorted KEY.out.1 hlt' : ∀ r ∈ l.drop (i + 1), q.t ≤ r.t)
      unfold BoolOk I at MV
      unfold BoolOk Q at M1 M2
      obtain ⟨g, cur, rfl, rg, g0, g1, g2, g3, g4⟩ := PAt.at (PAt.below HP.out hB) hlt'
      rw [← hq] at g0 g1 g2 g3 g4
      clear hq
      have Fg : ∀ X, Row X g (.cells cur 53) → (g < X.heap.size ∧ X.cell? ⟨g, i * 5, none⟩ = some (.int .i64 (q.t : Int)) ∧ X.cell? ⟨g, i * 5 + 1, none⟩ = some (.string (S q.iv.lo.num)) ∧ X.cell? ⟨g, i * 5 + 2, none⟩ = some (.string (S (q.iv.lo.den : Int))) ∧ X.cell? ⟨g, i * 5 + 3, none⟩ = some (.string (S q.iv.hi.num)) ∧ X.cell? ⟨g, i * 5 + 4, none⟩ = some (.string (S (q.iv.hi.den : Int)))) := fun X h => ⟨h.1, Row.cell_at h _ g0, Row.cell_at h _ g1, Row.cell_at h _ g2, Row.cell_at h _ g3, Row.cell_at h _ g4⟩
      obtain ⟨sg, cg0, cg1, cg2, cg3, cg4⟩ := Fg _ rg
      clear hm h3 h4 h5 KEY ht
      have hi : (i : Int) < (n : Int) := by omega
      go_wp2_with fail
      have sB := hB.size
      refine world_cut (fun X => Below w.heap.size w X ∧ Row X g (.cells cur 53) ∧ Row X wr.heap.size (.cells #[.int .i64 (q.t : Int), .string (S q.iv.lo.num), .string (S (q.iv.lo.den : Int)), .string (S q.iv.hi.num), .string (S (q.iv.hi.den : Int))] 53)) ⟨BW, RW, RW⟩ ?_
      clear rg
      clear sg cg0 cg1 cg2 cg3 cg4
      clear hB sB
      rintro V4 ⟨hB, rg, rp⟩
      obtain ⟨sg, cg0, cg1, cg2, cg3, cg4⟩ := Fg _ rg
      have Fp : ∀ X, Row X wr.heap.size (.cells #[.int .i64 (q.t : Int), .string (S q.iv.lo.num), .string (S (q.iv.lo.den : Int)), .string (S q.iv.hi.num), .string (S (q.iv.hi.den : Int))] 53) → (wr.heap.size < X.heap.size ∧ X.cell? ⟨wr.heap.size, 0, none⟩ = some (.int .i64 (q.t : Int)) ∧ X.cell? ⟨wr.heap.size, 1, none⟩ = some (.string (S q.iv.lo.num)) ∧ X.cell? ⟨wr.heap.size, 2, none⟩ = some (.string (S (q.iv.lo.den : Int))) ∧ X.cell? ⟨wr.heap.size, 3, none⟩ = some (.string (S q.iv.hi.num)) ∧ X.cell? ⟨wr.heap.size, 4, none⟩ = some (.string (S (q.iv.hi.den : Int)))) := fun X h => ⟨h.1, Row.cell_at h 0 rfl, Row.cell_at h 1 rfl, Row.cell_at h 2 rfl, Row.cell_at h 3 rfl, Row.cell_at h 4 rfl⟩
      obtain ⟨sp, cp0, cp1, cp2, cp3, cp4⟩ := Fp _ rp
      refine (MV _ (he.below hB)).mono ?_
      rintro e W5 ⟨rfl, h1⟩
      clear sg cg0 cg1 cg2 cg3 cg4
      clear sp cp0 cp1 cp2 cp3 cp4
      replace hB := hB.trans (h1.mono hB.size)
      replace rg := Row.below rg h1
      replace rp := Row.below rp h1
      clear h1
      obtain ⟨sg, cg0, cg1, cg2, cg3, cg4⟩ := Fg _ rg
      obtain ⟨sp, cp0, cp1, cp2, cp3, cp4⟩ := Fp _ rp
      go_wp2_with fail
      refine (M1 _ (he.below hB)).mono ?_
      rintro e W6 ⟨rfl, h1⟩
      clear sg cg0 cg1 cg2 cg3 cg4
      clear sp cp0 cp1 cp2 cp3 cp4
      replace hB := hB.trans (h1.mono hB.size)
      replace rg := Row.below rg h1
      replace rp := Row.below rp h1
      clear h1
      obtain ⟨sg, cg0, cg1, cg2, cg3, cg4⟩ := Fg _ rg
      obtain ⟨sp, cp0, cp1, cp2, cp3, cp4⟩ := Fp _ rp
      go_wp2_with fail
      refine (M2 _ (he.below hB)).mono ?_
      rintro e W7 ⟨rfl, h1⟩
      clear sg cg0 cg1 cg2 cg3 cg4
      clear sp cp0 cp1 cp2 cp3 cp4
      replace hB := hB.trans (h1.mono hB.size)
      replace rg := Row.below rg h1
      replace rp := Row.below rp h1
      clear h1
      obtain ⟨sg, cg0, cg1, cg2, cg3, cg4⟩ := Fg _ rg
      obtain ⟨sp, cp0, cp1, cp2, cp3, cp4⟩ := Fp _ rp
      go_wp2
      go_roundw
      case rel => exact ⟨i + 1, q.t, by go_num, rfl, by omega, ht2, BW⟩
      case measure => simp [intOf]; omega
    · obtain rfl : i = n := by omega
      go_wp2
      go_ret
      exact ⟨rfl, hB⟩
set_option maxRecDepth 100000 in
set_option maxHeartbeats 16000000 in
theorem dshort_zero (w : World) : Calls Tryz.prog 95 #[.agg #[.string ⟨#[]⟩, .string ⟨#[]⟩]] w (BoolOk false w) := by
  have hB : Below w.heap.size w w := Below.refl _ _
  have MS := fun W => qvalid_zero W
  unfold BoolOk at *
  go_enter Tryz.func95, Tryz.ntmps95
  go_wp2_with fail
  have sB := hB.size
  refine world_cut (fun X => Below w.heap.size w X ∧ Row X w.heap.size (.cells #[.string ⟨#[]⟩, .string ⟨#[]⟩] 26)) ⟨BW, RW⟩ ?_
  clear hB sB
  rintro V1 ⟨hB, rr⟩
  have Fr : ∀ X, Row X w.heap.size (.cells #[.string ⟨#[]⟩, .string ⟨#[]⟩] 26) → (w.heap.size < X.heap.size ∧ X.cell? ⟨w.heap.size, 0, none⟩ = some (.string ⟨#[]⟩) ∧ X.cell? ⟨w.heap.size, 1, none⟩ = some (.string ⟨#[]⟩)) := fun X h => ⟨h.1, Row.cell_at h 0 rfl, Row.cell_at h 1 rfl⟩
  obtain ⟨sr, cr0, cr1⟩ := Fr _ rr
  refine (MS _).mono ?_
  rintro e W2 ⟨rfl, h1⟩
  clear sr cr0 cr1
  replace hB := hB.trans (h1.mono hB.size)
  replace rr := Row.below rr h1
  clear h1
  obtain ⟨sr, cr0, cr1⟩ := Fr _ rr
  go_wp2
  go_ret
  exact ⟨rfl, hB⟩
set_option maxRecDepth 100000 in
set_option maxHeartbeats 16000000 in
theorem dvalid_zero (w : World) : Calls Tryz.prog 42 #[.agg #[.string ⟨#[]⟩, .string ⟨#[]⟩, .slice none 0 0]] w (BoolOk false w) := by
  have hB : Below w.heap.size w w := Below.refl _ _
  have MS := fun W => dshort_zero W
  unfold BoolOk at *
  go_enter Tryz.func42, Tryz.ntmps42
  go_wp2_with fail
  have sB := hB.size
  refine world_cut (fun X => Below w.heap.size w X ∧ Row X w.heap.size (.cells #[.string ⟨#[]⟩, .string ⟨#[]⟩, .slice none 0 0] 49)) ⟨BW, RW⟩ ?_
  clear hB sB
  rintro V1 ⟨hB, rh⟩
  have Fh : ∀ X, Row X w.heap.size (.cells #[.string ⟨#[]⟩, .string ⟨#[]⟩, .slice none 0 0] 49) → (w.heap.size < X.heap.size ∧ X.cell? ⟨w.heap.size, 0, none⟩ = some (.string ⟨#[]⟩) ∧ X.cell? ⟨w.heap.size, 1, none⟩ = some (.string ⟨#[]⟩) ∧ X.cell? ⟨w.heap.size, 2, none⟩ = some (.slice none 0 0)) := fun X h => ⟨h.1, Row.cell_at h 0 rfl, Row.cell_at h 1 rfl, Row.cell_at h 2 rfl⟩
  obtain ⟨sh, ch0, ch1, ch2⟩ := Fh _ rh
  refine (MS _).mono ?_
  rintro e W2 ⟨rfl, h1⟩
  clear sh ch0 ch1 ch2
  replace hB := hB.trans (h1.mono hB.size)
  replace rh := Row.below rh h1
  clear h1
  obtain ⟨sh, ch0, ch1, ch2⟩ := Fh _ rh
  go_wp2
  go_ret
  exact ⟨rfl, hB⟩
end Go.Proofs.YtngohpgkceedeaaGreatDoor
