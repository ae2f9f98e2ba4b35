/-
  DriftExact: the walk.
-/
import Derived.Test.YtngohpgkceedeaaGreatDoorZDArgs
import Derived.Test.YtngohpgkceedeaaGreatDoorZDLow
set_option linter.unusedSimpArgs false
set_option linter.unusedVariables false
namespace Go.Proofs.YtngohpgkceedeaaGreatDoor
open Go Go.RowKit Go.Lib Go.Shelf
attribute [local go_sem] normalQ

theorem OWG {P : Prop} (h : P := by repeat (first | (with_reducible assumption) | (with_reducible refine own_dr ?_) | (with_reducible refine own_drN ?_ _) | (with_reducible refine World.ownsRow.alloc ?_ _) | (with_reducible refine own_set_ge ?_ (by assumption) (by first | omega | (simp; omega))))) : P := h
theorem pat_append {A B : World} {p : Option Addr} {l : List Pt} {n₀ k n : Nat} {T : TypeId} {v : Value} {xs : List Value} (h : PAt A p l) (ho : A.ownsRow n₀ T k v n xs) (hg : A.grownBy B v.ownBlock) (hne : 53 ≠ T) : PAt B p l :=
  h.elim .inl fun ⟨g, cur, e, hr, hx⟩ => .inr ⟨g, cur, e, row_append ho hg hr hne, hx⟩
theorem own_nil (W : World) (base k : Nat) (T : TypeId) : W.ownsRow base T k (.slice none 0 0) 0 [] := ⟨by simp, .inl ⟨rfl, rfl⟩⟩
set_option maxRecDepth 100000 in
set_option maxHeartbeats 16000000 in
theorem driftExact_any (r0 r1 : Int) (px : Option Addr) (nx cx : Nat) (fx : Nat → Nat → Int) (ti pa : Int) (hr : IsInt r0 ∧ IsInt r1) (w : World) (hx : nx ≤ 9223372036854775807 ∧ XK 4 w px nx fx ∧ ∀ i j, i < nx → j < 4 → IsInt (fx i j)) (hti : IsInt ti) (hpa : IsInt pa) (he : Env w) :
    Calls Tryz.prog 8 #[.agg #[.int .i64 r0, .int .i64 r1], .slice px nx cx, .int .i64 ti, .int .i64 pa] w (BoolOk true w) := by
  have hB : Below w.heap.size w w := Below.refl _ _
  have NER : (26 : TypeId) ≠ 53 := by decide
  have NPR : (53 : TypeId) ≠ 26 := by decide
  have MS := fun W (H : Env W) => sane12 W H
  obtain ⟨i0, hi0, hz0, hz1, hz2⟩ := info_parts ratioInfo
  obtain ⟨hnx, hX, hfx⟩ := hx
  have HXX := Lib.hid hX
  have TT := fun W => pickL12 ti 130 hti (by decide) W
  have t1 := pk_nonneg ti (n := 130) (by decide)
  have t2 := pk_lt ti (n := 130) (by decide)
  obtain ⟨t, ht⟩ : ∃ t : Nat, pk ti 130 = (t : Int) := ⟨(pk ti 130).toNat, by omega⟩
  rw [ht] at TT
  have ht3 : t ≤ 1000000 := by omega
  clear t1 t2 ht hti
  have hmd := (made_ok r0 r1 fx (min nx 8) (by omega)).1
  obtain ⟨r, hr0⟩ : ∃ r, madeRate r0 r1 = r := ⟨_, rfl⟩
  obtain ⟨l, hl0⟩ : ∃ l, madeL fx (min nx 8) = l := ⟨_, rfl⟩
  obtain ⟨m, hm0⟩ : ∃ m, l.length = m := ⟨_, rfl⟩
  rw [hr0, hl0] at hmd
  have MM := fun W (h : X4 W px nx fx) => made_n (cx := cx) hr.1 hr.2 hfx hnx hr0 hl0 hm0 W h
  have hm8 : m ≤ 8 := by rw [← hm0]; exact hmd.few
  have HM0 := Lib.hid hm0
  clear hr0 hl0 hm0 hX hfx hr hnx
  unfold BoolOk at MS
  unfold Q at *
  go_enter Tryz.func8, Tryz.ntmps8
  go_wp2_with fail
  have sB := hB.size
  refine world_cut (fun X => Below w.heap.size w X ∧ Row X w.heap.size (.cells #[.int .i64 r0, .int .i64 r1] 50)) ⟨BW, RWk⟩ ?_
  clear hB sB
  rintro V1 ⟨hB, rrt⟩
  have Frt : ∀ X, Row X w.heap.size (.cells #[.int .i64 r0, .int .i64 r1] 50) → (w.heap.size < X.heap.size ∧ X.cell? ⟨w.heap.size, 0, none⟩ = some (.int .i64 r0) ∧ X.cell? ⟨w.heap.size, 1, none⟩ = some (.int .i64 r1)) := fun X h => ⟨h.1, Row.cell_at h 0 rfl, Row.cell_at h 1 rfl⟩
  obtain ⟨srt, crt0, crt1⟩ := Frt _ rrt
  refine (MS _ (he.below hB)).mono ?_
  rintro e W2 ⟨rfl, h1⟩
  clear srt crt0 crt1
  replace hB := hB.trans (h1.mono hB.size)
  replace rrt := Row.below rrt h1
  clear h1
  obtain ⟨srt, crt0, crt1⟩ := Frt _ rrt
  go_wp2_with fail
  clear rrt
  clear srt crt0 crt1
  clear Frt
  refine (MM _ (X4.below HXX.out hB)).mono ?_
  rintro e W3 ⟨p, c, ⟨hp, hmc⟩, rfl, h1⟩
  replace hB := hB.trans (h1.mono hB.size)
  clear h1
  go_wp2_with fail
  have sB := hB.size
  refine world_cut (fun X => Below w.heap.size w X ∧ Row X W3.heap.size (.cells #[.string (S r.num), .string (S (r.den : Int)), .slice p m c] 49) ∧ PAt X p l) ⟨BW, RWk, (by first | with_reducible exact pat_set2 hp rbest NER | with_reducible exact pat_set2 hp rlo NER | exact PAt.below hp BW)⟩ ?_
  clear hB sB hp
  rintro V4 ⟨hB, rh, hp⟩
  have Fh : ∀ X, Row X W3.heap.size (.cells #[.string (S r.num), .string (S (r.den : Int)), .slice p m c] 49) → (W3.heap.size < X.heap.size ∧ X.cell? ⟨W3.heap.size, 0, none⟩ = some (.string (S r.num)) ∧ X.cell? ⟨W3.heap.size, 1, none⟩ = some (.string (S (r.den : Int))) ∧ X.cell? ⟨W3.heap.size, 2, none⟩ = some (.slice p m c)) := fun X h => ⟨h.1, Row.cell_at h 0 rfl, Row.cell_at h 1 rfl, Row.cell_at h 2 rfl⟩
  obtain ⟨sh, ch0, ch1, ch2⟩ := Fh _ rh
  refine (TT _).mono ?_
  rintro e W5 ⟨rfl, h1⟩
  clear sh ch0 ch1 ch2
  replace hB := hB.trans (h1.mono hB.size)
  replace rh := Row.below rh h1
  replace hp := PAt.below hp h1
  clear h1
  obtain ⟨sh, ch0, ch1, ch2⟩ := Fh _ rh
  rcases Nat.eq_zero_or_pos m with hm1 | hm1
  · have DOFF := fun W p c (hp : PAt W p l) (H : Env W) => dat_off hmd.ok (t := t) ht3 p m c HM0.out (fun h => absurd h.1 (by omega)) W hp H
    unfold AtErr at DOFF
    subst hm1
    have Fh : ∀ X, Row X W3.heap.size (.cells #[.string (S r.num), .string (S (r.den : Int)), .slice p 0 c] 49) → (W3.heap.size < X.heap.size ∧ X.cell? ⟨W3.heap.size, 0, none⟩ = some (.string (S r.num)) ∧ X.cell? ⟨W3.heap.size, 1, none⟩ = some (.string (S (r.den : Int))) ∧ X.cell? ⟨W3.heap.size, 2, none⟩ = some (.slice p 0 c)) := fun X h => ⟨h.1, Row.cell_at h 0 rfl, Row.cell_at h 1 rfl, Row.cell_at h 2 rfl⟩
    obtain ⟨sh, ch0, ch1, ch2⟩ := Fh _ rh
    go_wp2_with fail
    refine (DOFF _ _ _ hp (he.below hB)).mono ?_
    rintro e W6 ⟨rfl, h1⟩
    clear sh ch0 ch1 ch2
    replace hB := hB.trans (h1.mono hB.size)
    replace rh := Row.below rh h1
    replace hp := PAt.below hp h1
    clear h1
    obtain ⟨sh, ch0, ch1, ch2⟩ := Fh _ rh
    have sB := hB.size
    go_wp2
    go_ret
    exact ⟨rfl, BW⟩
  · by_cases hfr : Free ⟨r, l⟩
    · have hne : l ≠ [] := by intro h; have := HM0.out; rw [h] at this; simp at this; omega
      obtain ⟨a, ka⟩ := exists_knows ⟨r, l⟩ t hne
      have DA := fun W p c (hp : PAt W p l) (H : Env W) => dat_known hmd.ok hfr ka ht3 p m c HM0.out hm1 W hp H
      have da : IDig 15 a := known_dig (hmd.rdig.mono (by omega)) hmd.ivs ht3 hmd.ok.times ka
      have MB := fun W (H : Env W) => dbetween da hpa W H
      have EX : ExOk r l t (betw a pa) a m := ⟨hmd.ok, hmd.rdig, hmd.ivs, hfr, ka, betw_has (ka.ok hmd.ok.rate hfr) pa, betw_dig da pa, ht3, HM0.out⟩
      have hcn : (cons ⟨r, l⟩).length = 0 := by rw [(cons_nil hmd.ok).2 hfr]; rfl
      have MC := fun W p c (hp : PAt W p l) (H : Env W) => dcons_say hcn hmd.ok p m c HM0.out W hp H
      unfold QOk I at MB
      unfold Q at *
      generalize betw a pa = v at *
      clear hcn da ka hne hmd hfr
      have ML := fun s (hs : s ≤ 1000000) W (H : Env W) => dlow (j := 2) (k := 48) EX.r2 EX.v48 (by omega) ht3 hs W H
      obtain ⟨U, hU⟩ : ∃ U, U = exV r l t v m := ⟨_, rfl⟩
      have HUl : Hid (∀ i, i < m → bst r l t v (ptD l i).t m = U i) := Lib.hid (fun i hi => by rw [hU]; exact (exV_lt hi).symm)
      have HUm : Hid (U m = v) := Lib.hid (by rw [hU]; exact exV_last r l t v m)
      have HUc : Hid (∀ i, i < m → (ptD l i).iv.Has (U i)) := Lib.hid (fun i hi => by rw [hU]; exact EX.contains hi)
      have HUd : Hid (∀ i, QDig 58 (U i)) := Lib.hid (fun i => by rw [hU]; exact EX.dig)
      have HUs : Hid (∀ i k, U k - far r (dist (exT l t m k) (exT l t m i)) ≤ U i) := Lib.hid (fun i k => by rw [hU]; exact EX.slow i k)
      clear hU
      unfold QOk at ML
      unfold Q at ML
      go_wp2_with fail
      refine (DA _ _ _ hp (he.below hB)).mono ?_
      rintro e W6 ⟨rfl, h1⟩
      clear sh ch0 ch1 ch2
      replace hB := hB.trans (h1.mono hB.size)
      replace rh := Row.below rh h1
      replace hp := PAt.below hp h1
      clear h1
      obtain ⟨sh, ch0, ch1, ch2⟩ := Fh _ rh
      go_wp2_with fail
      have sB := hB.size
      refine world_cut (fun X => Below w.heap.size w X ∧ Row X W3.heap.size (.cells #[.string (S r.num), .string (S (r.den : Int)), .slice p m c] 49) ∧ Row X W6.heap.size (.cells #[.string (S a.lo.num), .string (S (a.lo.den : Int)), .string (S a.hi.num), .string (S (a.hi.den : Int))] 29) ∧ PAt X p l) ⟨BW, RWk, RWk, (by first | with_reducible exact pat_set2 hp rbest NER | with_reducible exact pat_set2 hp rlo NER | exact PAt.below hp BW)⟩ ?_
      clear rh
      clear sh ch0 ch1 ch2
      clear hB sB hp
      rintro V7 ⟨hB, rh, ra, hp⟩
      obtain ⟨sh, ch0, ch1, ch2⟩ := Fh _ rh
      have Fa : ∀ X, Row X W6.heap.size (.cells #[.string (S a.lo.num), .string (S (a.lo.den : Int)), .string (S a.hi.num), .string (S (a.hi.den : Int))] 29) → (W6.heap.size < X.heap.size ∧ X.cell? ⟨W6.heap.size, 0, none⟩ = some (.string (S a.lo.num)) ∧ X.cell? ⟨W6.heap.size, 1, none⟩ = some (.string (S (a.lo.den : Int))) ∧ X.cell? ⟨W6.heap.size, 2, none⟩ = some (.string (S a.hi.num)) ∧ X.cell? ⟨W6.heap.size, 3, none⟩ = some (.string (S (a.hi.den : Int)))) := fun X h => ⟨h.1, Row.cell_at h 0 rfl, Row.cell_at h 1 rfl, Row.cell_at h 2 rfl, Row.cell_at h 3 rfl⟩
      obtain ⟨sa, ca0, ca1, ca2, ca3⟩ := Fa _ ra
      refine (MB _ (he.below hB)).mono ?_
      rintro e W8 ⟨rfl, h1⟩
      clear sh ch0 ch1 ch2
      clear sa ca0 ca1 ca2 ca3
      replace hB := hB.trans (h1.mono hB.size)
      replace rh := Row.below rh h1
      replace ra := Row.below ra h1
      replace hp := PAt.below hp h1
      clear h1
      obtain ⟨sh, ch0, ch1, ch2⟩ := Fh _ rh
      obtain ⟨sa, ca0, ca1, ca2, ca3⟩ := Fa _ ra
      go_wp2_with fail
      have sB := hB.size
      refine world_cut (fun X => Below w.heap.size w X ∧ Row X W3.heap.size (.cells #[.string (S r.num), .string (S (r.den : Int)), .slice p m c] 49) ∧ Row X W6.heap.size (.cells #[.string (S a.lo.num), .string (S (a.lo.den : Int)), .string (S a.hi.num), .string (S (a.hi.den : Int))] 29) ∧ Row X W8.heap.size (.cells #[.string (S v.num), .string (S (v.den : Int))] 26) ∧ PAt X p l) ⟨BW, RWk, RWk, RWk, (by first | with_reducible exact pat_set2 hp rbest NER | with_reducible exact pat_set2 hp rlo NER | exact PAt.below hp BW)⟩ ?_
      clear rh
      clear sh ch0 ch1 ch2
      clear ra
      clear sa ca0 ca1 ca2 ca3
      clear hB sB hp
      rintro V9 ⟨hB, rh, ra, rv, hp⟩
      obtain ⟨sh, ch0, ch1, ch2⟩ := Fh _ rh
      obtain ⟨sa, ca0, ca1, ca2, ca3⟩ := Fa _ ra
      have Fv : ∀ X, Row X W8.heap.size (.cells #[.string (S v.num), .string (S (v.den : Int))] 26) → (W8.heap.size < X.heap.size ∧ X.cell? ⟨W8.heap.size, 0, none⟩ = some (.string (S v.num)) ∧ X.cell? ⟨W8.heap.size, 1, none⟩ = some (.string (S (v.den : Int)))) := fun X h => ⟨h.1, Row.cell_at h 0 rfl, Row.cell_at h 1 rfl⟩
      obtain ⟨sv, cv0, cv1⟩ := Fv _ rv
      refine (MC _ _ _ hp (he.below hB)).mono ?_
      rintro e W10 ⟨v9, rfl, ⟨p5, c5, rfl⟩, h1⟩
      clear sh ch0 ch1 ch2
      clear sa ca0 ca1 ca2 ca3
      clear sv cv0 cv1
      replace hB := hB.trans (h1.mono hB.size)
      replace rh := Row.below rh h1
      replace ra := Row.below ra h1
      replace rv := Row.below rv h1
      replace hp := PAt.below hp h1
      clear h1
      obtain ⟨sh, ch0, ch1, ch2⟩ := Fh _ rh
      obtain ⟨sa, ca0, ca1, ca2, ca3⟩ := Fa _ ra
      obtain ⟨sv, cv0, cv1⟩ := Fv _ rv
      go_wp2_with fail
      obtain ⟨n0, hn0⟩ : ∃ n, n = W10.heap.size := ⟨_, rfl⟩
      have hnh : W3.heap.size < n0 := by rw [hn0]; exact sh
      have hna : W6.heap.size < n0 := by rw [hn0]; exact sa
      have hnv : W8.heap.size < n0 := by rw [hn0]; exact sv
      have hnw : w.heap.size ≤ n0 := by rw [hn0]; exact hB.size
      have hsz : n0 ≤ W10.heap.size := by omega
      clear hn0
      clear sh ch0 ch1 ch2
      clear sa ca0 ca1 ca2 ca3
      clear sv cv0 cv1
      go_loopw [15, 16] (fun v15 v16 wr => ∃ i : Nat, v16 = .int .i64 (i : Int) ∧ i ≤ m ∧ wr.ownsRow n0 26 2 v15 i (rCells U i) ∧ PAt wr p l ∧ n0 ≤ wr.heap.size ∧ Below w.heap.size w wr ∧ Row wr W3.heap.size (.cells #[.string (S r.num), .string (S (r.den : Int)), .slice p m c] 49) ∧ Row wr W6.heap.size (.cells #[.string (S a.lo.num), .string (S (a.lo.den : Int)), .string (S a.hi.num), .string (S (a.hi.den : Int))] 29) ∧ Row wr W8.heap.size (.cells #[.string (S v.num), .string (S (v.den : Int))] 26)) (fun _ v16 _ => (m - intOf v16).toNat)
      case atStart => exact ⟨0, rfl, Nat.zero_le _, own_nil _ _ _ _, hp, hsz, hB, rh, ra, rv⟩
      case round =>
        clear hB rh ra rv hp hsz
        obtain ⟨i, rfl, him, hown, hp, hsz, hB, rh, ra, rv⟩ := hrel
        obtain ⟨A, cA, rfl⟩ := own_slice hown
        rcases Nat.lt_or_ge i m with hlt | hge
        · have hlt' : i < l.length := by rw [HM0.out]; exact hlt
          obtain ⟨u, hu⟩ : ∃ u, u = ptD l i := ⟨_, rfl⟩
          obtain ⟨g, cur, hpg, rg, g0, g1, g2, g3, g4⟩ := PAt.at hp hlt'
          rw [← hu] at g0 g1 g2 g3 g4
          subst hpg
          have hul : u ∈ l := hu ▸ ptD_mem hlt'
          have hut : u.t ≤ 1000000 := EX.ok.times u hul
          have hBU : bst r l t v u.t m = U i := by rw [hu]; exact HUl.out i hlt
          have hCU : u.iv.Has (U i) := by rw [hu]; exact HUc.out i hlt
          have ML0 := fun W (H : Env W) => ML u.t hut W H
          obtain ⟨B, hBf⟩ : ∃ B, B = bst r l t v u.t := ⟨_, rfl⟩
          have hB0 : v - far r (dist t u.t) = B 0 := by rw [hBf]; rfl
          rw [hB0] at ML0
          have HBS : Hid (∀ k, B (k + 1) = if 0 < cmpQ (lowOf r u.t (ptD l k)) (B k) then lowOf r u.t (ptD l k) else B k) := Lib.hid (fun k => by rw [hBf]; rfl)
          have HBD : Hid (∀ k, k ≤ m → QDig 58 (B k)) := Lib.hid (fun k hk => by rw [hBf]; exact bst_dig EX.r2 (fun p hp => ⟨EX.ok.times p hp, EX.ivs p hp⟩) ht3 hut EX.v48 k (by rw [EX.len]; exact hk))
          have HBM : Hid (B m = U i) := Lib.hid (by rw [hBf]; exact hBU)
          have dU : IDig 2 u.iv := EX.ivs u hul
          have MCT := fun W (H : Env W) => econtains u.iv (U i) (dU.mono (by omega)) ((HUd.out i).mono (by omega)) W H
          rw [decide_eq_true (show u.iv.lo ≤ U i ∧ U i ≤ u.iv.hi from hCU)] at MCT
          unfold BoolOk I at MCT
          unfold Q at MCT
          clear hul hBU hCU hBf hB0 dU hu
          obtain ⟨n1, hn1⟩ : ∃ n, n = wr.heap.size := ⟨_, rfl⟩
          have hvb : ∀ g, (Value.slice A i cA).ownBlock = some g → g < n1 := fun g hg => by rw [hn1]; exact (World.ownsRow.lt hown g hg).2
          have hs1 : n1 ≤ wr.heap.size := by omega
          have hn01 : n0 ≤ n1 := by omega
          clear hn1 hsz
          clear Fh
          have Fh : ∀ X, Row X W3.heap.size (.cells #[.string (S r.num), .string (S (r.den : Int)), .slice (some ⟨g, 0, none⟩) m c] 49) → (W3.heap.size < X.heap.size ∧ X.cell? ⟨W3.heap.size, 0, none⟩ = some (.string (S r.num)) ∧ X.cell? ⟨W3.heap.size, 1, none⟩ = some (.string (S (r.den : Int))) ∧ X.cell? ⟨W3.heap.size, 2, none⟩ = some (.slice (some ⟨g, 0, none⟩) m c)) := fun X h => ⟨h.1, Row.cell_at h 0 rfl, Row.cell_at h 1 rfl, Row.cell_at h 2 rfl⟩
          obtain ⟨sh, ch0, ch1, ch2⟩ := Fh _ rh
          obtain ⟨sa, ca0, ca1, ca2, ca3⟩ := Fa _ ra
          obtain ⟨sv, cv0, cv1⟩ := Fv _ rv
          have Fg : ∀ X, Row X g (.cells cur 53) → (g < X.heap.size ∧ X.cell? ⟨g, i * 5, none⟩ = some (.int .i64 (u.t : Int)) ∧ X.cell? ⟨g, i * 5 + 1, none⟩ = some (.string (S u.iv.lo.num)) ∧ X.cell? ⟨g, i * 5 + 2, none⟩ = some (.string (S (u.iv.lo.den : Int))) ∧ X.cell? ⟨g, i * 5 + 3, none⟩ = some (.string (S u.iv.hi.num)) ∧ X.cell? ⟨g, i * 5 + 4, none⟩ = some (.string (S (u.iv.hi.den : Int)))) := fun X h => ⟨h.1, Row.cell_at h _ g0, Row.cell_at h _ g1, Row.cell_at h _ g2, Row.cell_at h _ g3, Row.cell_at h _ g4⟩
          obtain ⟨sg, cg0, cg1, cg2, cg3, cg4⟩ := Fg _ rg
          have hi : (i : Int) < (m : Int) := by omega
          go_wp2_with fail
          refine (ML0 _ (he.below hB)).mono ?_
          rintro e W11 ⟨rfl, h1⟩
          clear sh ch0 ch1 ch2
          clear sa ca0 ca1 ca2 ca3
          clear sv cv0 cv1
          clear sg cg0 cg1 cg2 cg3 cg4
          replace hB := hB.trans (h1.mono hB.size)
          replace rh := Row.below rh h1
          replace ra := Row.below ra h1
          replace rv := Row.below rv h1
          replace rg := Row.below rg h1
          replace hp := PAt.below hp h1
          replace hown := own_later hown h1
          replace hs1 := le_below hs1 h1
          clear h1
          obtain ⟨sh, ch0, ch1, ch2⟩ := Fh _ rh
          obtain ⟨sa, ca0, ca1, ca2, ca3⟩ := Fa _ ra
          obtain ⟨sv, cv0, cv1⟩ := Fv _ rv
          obtain ⟨sg, cg0, cg1, cg2, cg3, cg4⟩ := Fg _ rg
          have hnb := hs1
          go_wp2_with fail
          have dh_best : W3.heap.size < W11.heap.size := by omega
          have da_best : W6.heap.size < W11.heap.size := by omega
          have dv_best : W8.heap.size < W11.heap.size := by omega
          have dg_best : g < W11.heap.size := by omega
          have d0_best : w.heap.size ≤ W11.heap.size := by have := hB.size; omega
          have sB := hB.size
          refine wp_cut (fun X => Below w.heap.size w X ∧ Row X W3.heap.size (.cells #[.string (S r.num), .string (S (r.den : Int)), .slice (some ⟨g, 0, none⟩) m c] 49) ∧ Row X W6.heap.size (.cells #[.string (S a.lo.num), .string (S (a.lo.den : Int)), .string (S a.hi.num), .string (S (a.hi.den : Int))] 29) ∧ Row X W8.heap.size (.cells #[.string (S v.num), .string (S (v.den : Int))] 26) ∧ Row X g (.cells cur 53) ∧ Row X W11.heap.size (.cells #[.string (S (B 0).num), .string (S ((B 0).den : Int))] 26) ∧ PAt X (some ⟨g, 0, none⟩) l ∧ X.ownsRow n0 26 2 (.slice A i cA) i (rCells U i) ∧ n1 ≤ X.heap.size) ⟨BW, RWk, RWk, RWk, RWk, RWk, (by first | with_reducible exact pat_set2 hp rbest NER | with_reducible exact pat_set2 hp rlo NER | exact PAt.below hp BW), OWG, (by first | omega | (simp; omega))⟩ ?_
          clear rh
          clear sh ch0 ch1 ch2
          clear ra
          clear sa ca0 ca1 ca2 ca3
          clear rv
          clear sv cv0 cv1
          clear rg
          clear sg cg0 cg1 cg2 cg3 cg4
          clear hB sB hp hown hs1
          rintro V12 ⟨hB, rh, ra, rv, rg, rbest, hp, hown, hs1⟩
          obtain ⟨sh, ch0, ch1, ch2⟩ := Fh _ rh
          obtain ⟨sa, ca0, ca1, ca2, ca3⟩ := Fa _ ra
          obtain ⟨sv, cv0, cv1⟩ := Fv _ rv
          obtain ⟨sg, cg0, cg1, cg2, cg3, cg4⟩ := Fg _ rg
          have Fbest : ∀ X, Row X W11.heap.size (.cells #[.string (S (B 0).num), .string (S ((B 0).den : Int))] 26) → (W11.heap.size < X.heap.size ∧ X.cell? ⟨W11.heap.size, 0, none⟩ = some (.string (S (B 0).num)) ∧ X.cell? ⟨W11.heap.size, 1, none⟩ = some (.string (S ((B 0).den : Int))) ∧ X.frozen? ⟨W11.heap.size, 0, none⟩ = false ∧ X.frozen? ⟨W11.heap.size, 1, none⟩ = false) := fun X h => ⟨h.1, Row.cell_at h 0 rfl, Row.cell_at h 1 rfl, frozen_of_row _ _ 0 _ _ h.2, frozen_of_row _ _ 1 _ _ h.2⟩
          obtain ⟨sbest, cbest0, cbest1, fbest0, fbest1⟩ := Fbest _ rbest
          clear sh ch0 ch1 ch2
          clear sa ca0 ca1 ca2 ca3
          clear sv cv0 cv1
          clear sg cg0 cg1 cg2 cg3 cg4
          clear sbest cbest0 cbest1 fbest0 fbest1
          go_loopw [20] (fun v20 wr => ∃ k : Nat, v20 = .int .i64 (k : Int) ∧ k ≤ m ∧ PAt wr (some ⟨g, 0, none⟩) l ∧ wr.ownsRow n0 26 2 (.slice A i cA) i (rCells U i) ∧ n1 ≤ wr.heap.size ∧ Below w.heap.size w wr ∧ Row wr W3.heap.size (.cells #[.string (S r.num), .string (S (r.den : Int)), .slice (some ⟨g, 0, none⟩) m c] 49) ∧ Row wr W6.heap.size (.cells #[.string (S a.lo.num), .string (S (a.lo.den : Int)), .string (S a.hi.num), .string (S (a.hi.den : Int))] 29) ∧ Row wr W8.heap.size (.cells #[.string (S v.num), .string (S (v.den : Int))] 26) ∧ Row wr g (.cells cur 53) ∧ Row wr (W11.heap.size) (.cells #[.string (S (B k).num), .string (S ((B k).den : Int))] 26)) (fun v20 _ => (m - intOf v20).toNat)
          case atStart => exact ⟨0, rfl, Nat.zero_le _, hp, hown, hs1, hB, rh, ra, rv, rg, rbest⟩
          case round =>
            clear hB rh ra rv rg rbest hp hown hs1
            obtain ⟨k, rfl, hkm, hp, hown, hs1, hB, rh, ra, rv, rg, rbest⟩ := hrel
            rcases Nat.lt_or_ge k m with hlk | hgk
            · have hlk' : k < l.length := by rw [HM0.out]; exact hlk
              obtain ⟨q, hq⟩ : ∃ q, q = ptD l k := ⟨_, rfl⟩
              obtain ⟨g', cur2, hg2, rg2, z0, z1, z2, z3, z4⟩ := PAt.at hp hlk'
              rw [← hq] at z0 z1 z2
              simp only [Option.some.injEq, Addr.mk.injEq, and_true] at hg2
              subst hg2
              obtain rfl : cur = cur2 := by have := rg.2.symm.trans rg2.2; simpa using this
              clear z3 z4 rg2 g0 g1 g2 g3 g4
              have hql : q ∈ l := hq ▸ ptD_mem hlk'
              have hqt : q.t ≤ 1000000 := EX.ok.times q hql
              have dq : IDig 2 q.iv := EX.ivs q hql
              have ML2 := fun W (H : Env W) => dlow (j := 2) (k := 2) EX.r2 dq.1 (by omega) hqt hut W H
              obtain ⟨x, hx⟩ : ∃ x, x = lowOf r u.t q := ⟨_, rfl⟩
              rw [show q.iv.lo - far r (dist q.t u.t) = x from hx.symm] at ML2
              have dx : QDig 58 x := by rw [hx]; exact lowOf_dig EX.r2 hut hqt dq
              have MCP := fun W (H : Env W) => qcompare x (B k) (dx.mono (by omega)) ((HBD.out k (by omega)).mono (by omega)) W H
              have hbs := HBS.out k
              rw [← hq, ← hx] at hbs
              have HB1 := Lib.hid hbs
              unfold QOk at ML2
              unfold CmpOk at MCP
              unfold Q at ML2 MCP
              clear hq hql dq hx dx hbs
              have hki : (k : Int) < (m : Int) := by omega
              obtain ⟨sh, ch0, ch1, ch2⟩ := Fh _ rh
              obtain ⟨sa, ca0, ca1, ca2, ca3⟩ := Fa _ ra
              obtain ⟨sv, cv0, cv1⟩ := Fv _ rv
              clear Fg
              have Fg : ∀ X, Row X g (.cells cur 53) → (g < X.heap.size ∧ X.cell? ⟨g, k * 5, none⟩ = some (.int .i64 (q.t : Int)) ∧ X.cell? ⟨g, k * 5 + 1, none⟩ = some (.string (S q.iv.lo.num)) ∧ X.cell? ⟨g, k * 5 + 2, none⟩ = some (.string (S (q.iv.lo.den : Int)))) := fun X h => ⟨h.1, Row.cell_at h _ z0, Row.cell_at h _ z1, Row.cell_at h _ z2⟩
              obtain ⟨sg, cg0, cg1, cg2⟩ := Fg _ rg
              clear Fbest
              have Fbest : ∀ X, Row X W11.heap.size (.cells #[.string (S (B k).num), .string (S ((B k).den : Int))] 26) → (W11.heap.size < X.heap.size ∧ X.cell? ⟨W11.heap.size, 0, none⟩ = some (.string (S (B k).num)) ∧ X.cell? ⟨W11.heap.size, 1, none⟩ = some (.string (S ((B k).den : Int))) ∧ X.frozen? ⟨W11.heap.size, 0, none⟩ = false ∧ X.frozen? ⟨W11.heap.size, 1, none⟩ = false) := fun X h => ⟨h.1, Row.cell_at h 0 rfl, Row.cell_at h 1 rfl, frozen_of_row _ _ 0 _ _ h.2, frozen_of_row _ _ 1 _ _ h.2⟩
              obtain ⟨sbest, cbest0, cbest1, fbest0, fbest1⟩ := Fbest _ rbest
              go_wp2_with fail
              have dh_lo := rh.1
              have da_lo := ra.1
              have dv_lo := rv.1
              have dg_lo := rg.1
              have dbest_lo := rbest.1
              have d0_lo := hB.size
              refine wp_region_late 21 [19] [.val (.pointer (some ⟨W3.heap.size, 0, none⟩)), .val (.agg #[.string (S r.num), .string (S (r.den : Int))]), .val (.pointer (some ⟨W3.heap.size, 2, none⟩)), .val (.slice (some ⟨g, 0, none⟩) m c), .val (.int .i64 (k : Int)), .val (.pointer (some ⟨g, k * 5, none⟩)), .val (.pointer (some ⟨g, k * 5, none⟩)), .val (.int .i64 (q.t : Int)), .val (.pointer (some ⟨W3.heap.size, 2, none⟩)), .val (.slice (some ⟨g, 0, none⟩) m c), .val (.int .i64 (k : Int)), .val (.pointer (some ⟨g, k * 5, none⟩)), .val (.pointer (some ⟨g, k * 5 + 1, none⟩)), .val (.pointer (some ⟨g, k * 5 + 1, none⟩)), .val (.agg #[.string (S q.iv.lo.num), .string (S (q.iv.lo.den : Int))]), .val (.int .i64 (u.t : Int)), .val (.tuple #[.agg #[.string (S x.num), .string (S (x.den : Int))], .int .i64 0]), .val (.tuple #[.agg #[.string (S x.num), .string (S (x.den : Int))], .int .i64 0]), .val (.agg #[.string (S x.num), .string (S (x.den : Int))]), .val (.int .i64 0), .say (fresh _ (.cells #[.string ⟨#[]⟩, .string ⟨#[]⟩] 26))] [21] (by kernel_rfl) (by kernel_rfl) (by kernel_rfl) rfl ⟨fresh_mono _ _, trivial⟩ (allItems.cons qi0 (allItems.cons (qi1 fun X h => Fh X (Row.below rh h)) (allItems.cons qi0 (allItems.cons (qi1 fun X h => Fh X (Row.below rh h)) (allItems.cons qi0 (allItems.cons (qif hki) (allItems.cons qi0 (allItems.cons (qi1 fun X h => Fg X (Row.below rg h)) (allItems.cons qi0 (allItems.cons (qi1 fun X h => Fh X (Row.below rh h)) (allItems.cons qi0 (allItems.cons (qif hki) (allItems.cons qi0 (allItems.cons qi0 (allItems.cons (qi1 fun X h => Fg X (Row.below rg h)) (allItems.cons qi0 (allItems.cons (qi2 fun X h => ML2 X (he.below (hB.trans (h.mono hB.size)))) (allItems.cons qi0 (allItems.cons qi0 (allItems.cons qi0 (allItems.cons qia trivial))))))))))))))))))))) ?_
              rintro W h1
              clear sh ch0 ch1 ch2
              clear sa ca0 ca1 ca2 ca3
              clear sv cv0 cv1
              clear sg cg0 cg1 cg2
              clear sbest cbest0 cbest1 fbest0 fbest1
              replace hB := hB.trans (h1.mono hB.size)
              replace rh := Row.below rh h1
              replace ra := Row.below ra h1
              replace rv := Row.below rv h1
              replace rg := Row.below rg h1
              replace rbest := Row.below rbest h1
              replace hp := PAt.below hp h1
              replace hown := own_later hown h1
              replace hs1 := le_below hs1 h1
              clear h1
              obtain ⟨sh, ch0, ch1, ch2⟩ := Fh _ rh
              obtain ⟨sa, ca0, ca1, ca2, ca3⟩ := Fa _ ra
              obtain ⟨sv, cv0, cv1⟩ := Fv _ rv
              obtain ⟨sg, cg0, cg1, cg2⟩ := Fg _ rg
              obtain ⟨sbest, cbest0, cbest1, fbest0, fbest1⟩ := Fbest _ rbest
              simp only [setItems, List.setIfInBounds_toArray, List.set_cons_succ, List.set_cons_zero, List.take_succ_cons, List.take_zero, List.drop_succ_cons, List.drop_zero]
              rintro _ ⟨plo, rfl, hlo, rlo⟩
              replace dh_lo := Nat.lt_of_lt_of_le dh_lo hlo
              replace da_lo := Nat.lt_of_lt_of_le da_lo hlo
              replace dv_lo := Nat.lt_of_lt_of_le dv_lo hlo
              replace dg_lo := Nat.lt_of_lt_of_le dg_lo hlo
              replace dbest_lo := Nat.lt_of_lt_of_le dbest_lo hlo
              replace d0_lo := Nat.le_trans d0_lo hlo
              have Flo : ∀ X, Row X plo (.cells #[.string ⟨#[]⟩, .string ⟨#[]⟩] 26) → (plo < X.heap.size ∧ X.cell? ⟨plo, 0, none⟩ = some (.string ⟨#[]⟩) ∧ X.cell? ⟨plo, 1, none⟩ = some (.string ⟨#[]⟩) ∧ X.frozen? ⟨plo, 0, none⟩ = false ∧ X.frozen? ⟨plo, 1, none⟩ = false) := fun X h => ⟨h.1, Row.cell_at h 0 rfl, Row.cell_at h 1 rfl, frozen_of_row _ _ 0 _ _ h.2, frozen_of_row _ _ 1 _ _ h.2⟩
              obtain ⟨slo, clo0, clo1, flo0, flo1⟩ := Flo _ rlo
              intro _
              go_wp2_with fail
              unfold normalQ
              go_upto_region 24 with fail
              have sB := hB.size
              refine wp_cut (fun X => Below w.heap.size w X ∧ Row X W3.heap.size (.cells #[.string (S r.num), .string (S (r.den : Int)), .slice (some ⟨g, 0, none⟩) m c] 49) ∧ Row X W6.heap.size (.cells #[.string (S a.lo.num), .string (S (a.lo.den : Int)), .string (S a.hi.num), .string (S (a.hi.den : Int))] 29) ∧ Row X W8.heap.size (.cells #[.string (S v.num), .string (S (v.den : Int))] 26) ∧ Row X g (.cells cur 53) ∧ Row X W11.heap.size (.cells #[.string (S (B k).num), .string (S ((B k).den : Int))] 26) ∧ Row X plo (.cells #[.string (S x.num), .string (S (x.den : Int))] 26) ∧ PAt X (some ⟨g, 0, none⟩) l ∧ X.ownsRow n0 26 2 (.slice A i cA) i (rCells U i) ∧ n1 ≤ X.heap.size) ⟨BW, RWk, RWk, RWk, RWk, RWk, RWk, (by first | with_reducible exact pat_set2 hp rbest NER | with_reducible exact pat_set2 hp rlo NER | exact PAt.below hp BW), OWG, (by first | omega | (simp; omega))⟩ ?_
              clear rh
              clear sh ch0 ch1 ch2
              clear ra
              clear sa ca0 ca1 ca2 ca3
              clear rv
              clear sv cv0 cv1
              clear rg
              clear sg cg0 cg1 cg2
              clear rbest
              clear sbest cbest0 cbest1 fbest0 fbest1
              clear rlo
              clear slo clo0 clo1 flo0 flo1
              clear hB sB hp hown hs1
              rintro V13 ⟨hB, rh, ra, rv, rg, rbest, rlo, hp, hown, hs1⟩
              obtain ⟨sh, ch0, ch1, ch2⟩ := Fh _ rh
              obtain ⟨sa, ca0, ca1, ca2, ca3⟩ := Fa _ ra
              obtain ⟨sv, cv0, cv1⟩ := Fv _ rv
              obtain ⟨sg, cg0, cg1, cg2⟩ := Fg _ rg
              obtain ⟨sbest, cbest0, cbest1, fbest0, fbest1⟩ := Fbest _ rbest
              clear Flo
              have Flo : ∀ X, Row X plo (.cells #[.string (S x.num), .string (S (x.den : Int))] 26) → (plo < X.heap.size ∧ X.cell? ⟨plo, 0, none⟩ = some (.string (S x.num)) ∧ X.cell? ⟨plo, 1, none⟩ = some (.string (S (x.den : Int))) ∧ X.frozen? ⟨plo, 0, none⟩ = false ∧ X.frozen? ⟨plo, 1, none⟩ = false) := fun X h => ⟨h.1, Row.cell_at h 0 rfl, Row.cell_at h 1 rfl, frozen_of_row _ _ 0 _ _ h.2, frozen_of_row _ _ 1 _ _ h.2⟩
              obtain ⟨slo, clo0, clo1, flo0, flo1⟩ := Flo _ rlo
              by_cases hc : 0 < cmpQ x (B k)
              · have eB : B (k + 1) = x := by rw [HB1.out, if_pos hc]
                have EB := Lib.hid eB
                clear eB
                go_wp2_with fail
                refine (MCP _ (he.below hB)).mono ?_
                rintro e W14 ⟨rfl, h1⟩
                clear sh ch0 ch1 ch2
                clear sa ca0 ca1 ca2 ca3
                clear sv cv0 cv1
                clear sg cg0 cg1 cg2
                clear sbest cbest0 cbest1 fbest0 fbest1
                clear slo clo0 clo1 flo0 flo1
                replace hB := hB.trans (h1.mono hB.size)
                replace rh := Row.below rh h1
                replace ra := Row.below ra h1
                replace rv := Row.below rv h1
                replace rg := Row.below rg h1
                replace rbest := Row.below rbest h1
                replace rlo := Row.below rlo h1
                replace hp := PAt.below hp h1
                replace hown := own_later hown h1
                replace hs1 := le_below hs1 h1
                clear h1
                obtain ⟨sh, ch0, ch1, ch2⟩ := Fh _ rh
                obtain ⟨sa, ca0, ca1, ca2, ca3⟩ := Fa _ ra
                obtain ⟨sv, cv0, cv1⟩ := Fv _ rv
                obtain ⟨sg, cg0, cg1, cg2⟩ := Fg _ rg
                obtain ⟨sbest, cbest0, cbest1, fbest0, fbest1⟩ := Fbest _ rbest
                obtain ⟨slo, clo0, clo1, flo0, flo1⟩ := Flo _ rlo
                go_wp2
                go_roundw
                case rel => exact ⟨k + 1, by go_num, by omega, pat_set2 hp rbest NER, OWG, (by first | omega | (simp; omega)), BW, RWk, RWk, RWk, RWk, by rw [EB.out]; exact RWk⟩
                case measure => simp [intOf]; omega
              · have eB : B (k + 1) = B k := by rw [HB1.out, if_neg hc]
                have EB := Lib.hid eB
                clear eB
                go_wp2_with fail
                refine (MCP _ (he.below hB)).mono ?_
                rintro e W14 ⟨rfl, h1⟩
                clear sh ch0 ch1 ch2
                clear sa ca0 ca1 ca2 ca3
                clear sv cv0 cv1
                clear sg cg0 cg1 cg2
                clear sbest cbest0 cbest1 fbest0 fbest1
                clear slo clo0 clo1 flo0 flo1
                replace hB := hB.trans (h1.mono hB.size)
                replace rh := Row.below rh h1
                replace ra := Row.below ra h1
                replace rv := Row.below rv h1
                replace rg := Row.below rg h1
                replace rbest := Row.below rbest h1
                replace rlo := Row.below rlo h1
                replace hp := PAt.below hp h1
                replace hown := own_later hown h1
                replace hs1 := le_below hs1 h1
                clear h1
                obtain ⟨sh, ch0, ch1, ch2⟩ := Fh _ rh
                obtain ⟨sa, ca0, ca1, ca2, ca3⟩ := Fa _ ra
                obtain ⟨sv, cv0, cv1⟩ := Fv _ rv
                obtain ⟨sg, cg0, cg1, cg2⟩ := Fg _ rg
                obtain ⟨sbest, cbest0, cbest1, fbest0, fbest1⟩ := Fbest _ rbest
                obtain ⟨slo, clo0, clo1, flo0, flo1⟩ := Flo _ rlo
                go_wp2
                go_roundw
                case rel => exact ⟨k + 1, by go_num, by omega, (by first | exact PAt.below hp BW), OWG, (by first | omega | (simp; omega)), BW, RWk, RWk, RWk, RWk, by rw [EB.out]; exact RWk⟩
                case measure => simp [intOf]; omega
            · obtain rfl : m = k := by omega
              rw [HBM.out] at rbest
              obtain ⟨sh, ch0, ch1, ch2⟩ := Fh _ rh
              obtain ⟨sa, ca0, ca1, ca2, ca3⟩ := Fa _ ra
              obtain ⟨sv, cv0, cv1⟩ := Fv _ rv
              have Fg : ∀ X, Row X g (.cells cur 53) → (g < X.heap.size ∧ X.cell? ⟨g, i * 5, none⟩ = some (.int .i64 (u.t : Int)) ∧ X.cell? ⟨g, i * 5 + 1, none⟩ = some (.string (S u.iv.lo.num)) ∧ X.cell? ⟨g, i * 5 + 2, none⟩ = some (.string (S (u.iv.lo.den : Int))) ∧ X.cell? ⟨g, i * 5 + 3, none⟩ = some (.string (S u.iv.hi.num)) ∧ X.cell? ⟨g, i * 5 + 4, none⟩ = some (.string (S (u.iv.hi.den : Int)))) := fun X h => ⟨h.1, Row.cell_at h _ g0, Row.cell_at h _ g1, Row.cell_at h _ g2, Row.cell_at h _ g3, Row.cell_at h _ g4⟩
              obtain ⟨sg, cg0, cg1, cg2, cg3, cg4⟩ := Fg _ rg
              clear Fbest
              have Fbest : ∀ X, Row X W11.heap.size (.cells #[.string (S (U i).num), .string (S ((U i).den : Int))] 26) → (W11.heap.size < X.heap.size ∧ X.cell? ⟨W11.heap.size, 0, none⟩ = some (.string (S (U i).num)) ∧ X.cell? ⟨W11.heap.size, 1, none⟩ = some (.string (S ((U i).den : Int))) ∧ X.frozen? ⟨W11.heap.size, 0, none⟩ = false ∧ X.frozen? ⟨W11.heap.size, 1, none⟩ = false) := fun X h => ⟨h.1, Row.cell_at h 0 rfl, Row.cell_at h 1 rfl, frozen_of_row _ _ 0 _ _ h.2, frozen_of_row _ _ 1 _ _ h.2⟩
              obtain ⟨sbest, cbest0, cbest1, fbest0, fbest1⟩ := Fbest _ rbest
              go_wp2_with fail
              refine wp_region_vals [.pointer (some ⟨W3.heap.size, 2, none⟩), .slice (some ⟨g, 0, none⟩) m c, .int .i64 (i : Int), .pointer (some ⟨g, i * 5, none⟩), .pointer (some ⟨g, i * 5 + 1, none⟩), .agg #[.string (S u.iv.lo.num), .string (S (u.iv.lo.den : Int)), .string (S u.iv.hi.num), .string (S (u.iv.hi.den : Int))], .agg #[.string (S (U i).num), .string (S ((U i).den : Int))], .bool true, .bool false] (by kernel_rfl) (by kernel_rfl) rfl (allVals.cons qv0 (allVals.cons (qv1 fun X h => Fh X (Row.below rh h)) (allVals.cons qv0 (allVals.cons (qvf hi) (allVals.cons qv0 (allVals.cons (qv1 fun X h => Fg X (Row.below rg h)) (allVals.cons (qv1 fun X h => Fbest X (Row.below rbest h)) (allVals.cons (qv2 fun X h => MCT X (he.below (hB.trans (h.mono hB.size)))) (allVals.cons (qvf hi) trivial))))))))) ?_
              rintro W h1
              clear sh ch0 ch1 ch2
              clear sa ca0 ca1 ca2 ca3
              clear sv cv0 cv1
              clear sg cg0 cg1 cg2 cg3 cg4
              clear sbest cbest0 cbest1 fbest0 fbest1
              replace hB := hB.trans (h1.mono hB.size)
              replace rh := Row.below rh h1
              replace ra := Row.below ra h1
              replace rv := Row.below rv h1
              replace rg := Row.below rg h1
              replace rbest := Row.below rbest h1
              replace hp := PAt.below hp h1
              replace hown := own_later hown h1
              replace hs1 := le_below hs1 h1
              clear h1
              obtain ⟨sh, ch0, ch1, ch2⟩ := Fh _ rh
              obtain ⟨sa, ca0, ca1, ca2, ca3⟩ := Fa _ ra
              obtain ⟨sv, cv0, cv1⟩ := Fv _ rv
              obtain ⟨sg, cg0, cg1, cg2, cg3, cg4⟩ := Fg _ rg
              obtain ⟨sbest, cbest0, cbest1, fbest0, fbest1⟩ := Fbest _ rbest
              simp only [setVals, List.setIfInBounds_toArray, List.set_cons_succ, List.set_cons_zero]
              go_upto_region 28 with fail
              go_wp2_with (at_builtin; refine wpList_append_reads _ rfl (.tmp 149) (.tmp 151) 45 rfl n0 26 i0 (.agg #[.string ⟨#[]⟩, .string ⟨#[]⟩]) 2 32 Tryz.underlying45 hi0 hz0 hz1 hz2 rfl (by decide) (.slice A i cA) i (rCells U i) rfl (hown.alloc _) (W.heap.size + 1) (some ⟨W.heap.size, 0, none⟩) 1 1 [.string (S (U i).num), .string (S ((U i).den : Int))] rfl (reads_two _ _ _ _) (by intro u hu; simp at hu; rcases hu with rfl | rfl <;> rfl) (by unfold maxLen; omega) (by omega) (by simp; omega) ?_; intro v' W9 hown' hgrow'; replace rh := own_row_ne (hown.alloc _) hgrow' (rh.alloc _) hnh; replace ra := own_row_ne (hown.alloc _) hgrow' (ra.alloc _) hna; replace rv := own_row_ne (hown.alloc _) hgrow' (rv.alloc _) hnv; replace hp := pat_append (PAt.below hp ((Below.refl _ _).alloc (Nat.le_refl _) _)) (hown.alloc _) hgrow' NPR; replace hB := Below.grown (hB.alloc (by omega) _) hgrow' (by have := hB.size; first | omega | (simp; omega)) (fun k hk => by have := (World.ownsRow.lt hown k hk).1; omega); replace hs1 : n0 ≤ W9.heap.size := Nat.le_trans (by simp; omega) hgrow'.size; clear hown rg rbest; (try clear sh ch0 ch1 ch2 sa ca0 ca1 ca2 ca3 sv cv0 cv1 sg cg0 cg1 cg2 cg3 cg4 sbest cbest0 cbest1 fbest0 fbest1))
              go_roundw
              case rel => exact ⟨i + 1, by go_num, by omega, hown', hp, hs1, hB, rh, ra, rv⟩
              case measure => simp [intOf]; omega
        · obtain rfl : m = i := by omega
          obtain ⟨sh, ch0, ch1, ch2⟩ := Fh _ rh
          obtain ⟨sa, ca0, ca1, ca2, ca3⟩ := Fa _ ra
          obtain ⟨sv, cv0, cv1⟩ := Fv _ rv
          go_upto_region 29 with fail
          go_upto_region 30 with (at_builtin; refine wpList_append_reads _ rfl (.tmp 153) (.tmp 155) 45 rfl n0 26 i0 (.agg #[.string ⟨#[]⟩, .string ⟨#[]⟩]) 2 32 Tryz.underlying45 hi0 hz0 hz1 hz2 rfl (by decide) (.slice A m cA) m (rCells U m) rfl (hown.alloc _) (wr.heap.size + 1) (some ⟨wr.heap.size, 0, none⟩) 1 1 [.string (S v.num), .string (S (v.den : Int))] rfl (reads_two _ _ _ _) (by intro u hu; simp at hu; rcases hu with rfl | rfl <;> rfl) (by unfold maxLen; omega) (by omega) (by simp; omega) ?_; intro v' W9 hown' hgrow'; replace rh := own_row_ne (hown.alloc _) hgrow' (rh.alloc _) hnh; replace ra := own_row_ne (hown.alloc _) hgrow' (ra.alloc _) hna; replace rv := own_row_ne (hown.alloc _) hgrow' (rv.alloc _) hnv; replace hp := pat_append (PAt.below hp ((Below.refl _ _).alloc (Nat.le_refl _) _)) (hown.alloc _) hgrow' NPR; replace hB := Below.grown (hB.alloc (by omega) _) hgrow' (by have := hB.size; first | omega | (simp; omega)) (fun k hk => by have := (World.ownsRow.lt hown k hk).1; omega); clear hown; (try clear sh ch0 ch1 ch2 sa ca0 ca1 ca2 ca3 sv cv0 cv1); (have hown2 : W9.ownsRow n0 26 2 v' (m + 1) (rCells U (m + 1)) := by have h9 := hown'; rw [← HUm.out] at h9; exact h9); obtain ⟨gv, cv, curv, rfl, hgv, rvs, hxv, -⟩ := own_split (show 0 < m + 1 from Nat.succ_pos _) hown2; have HXV := Lib.hid hxv; clear hxv hown' hown2 hgrow' hsz)
          obtain ⟨TM, hTM⟩ : ∃ T, T = exT l t m := ⟨_, rfl⟩
          have HTl : Hid (∀ i, i < m → (ptD l i).t = TM i) := Lib.hid (fun i hi => by rw [hTM]; exact (exT_lt hi).symm)
          have HTm : Hid (TM m = t) := Lib.hid (by rw [hTM]; exact exT_last l t m)
          have HTt : Hid (∀ i, TM i ≤ 1000000) := Lib.hid (fun i => by rw [hTM]; exact EX.time)
          have HUS : Hid (∀ i k, U k - far r (dist (TM k) (TM i)) ≤ U i) := Lib.hid (by rw [hTM]; exact HUs.out)
          clear hTM HUs HUl HUc
          obtain ⟨j0, hj0, hy0, hy1, hy2⟩ := info_parts intInfo
          have hmk : ∀ W : World, (Instr.makeSlice 58 (.int .i64 ((m + 1 : Nat) : Int)) (.int .i64 ((m + 1 : Nat) : Int))).run Tryz.prog W = .ok (.slice (some ⟨W.heap.size, 0, none⟩) (m + 1) (m + 1)) (W.alloc (.cells (tCells TM (m + 1) 0).toArray 3)) := fun W => by rw [tCells_zero]; exact run_make_zeros (P := Tryz.prog) 58 3 j0 Tryz.underlying58 hj0 hy0 hy1 hy2 (m + 1) (by omega) W
          have hmk2 := hmk
          rw [show ((m + 1 : Nat) : Int) = (m : Int) + 1 from by omega] at hmk2
          obtain ⟨sh, ch0, ch1, ch2⟩ := Fh _ rh
          obtain ⟨sa, ca0, ca1, ca2, ca3⟩ := Fa _ ra
          obtain ⟨sv, cv0, cv1⟩ := Fv _ rv
          have Fvs : ∀ X, Row X gv (.cells curv 26) → (gv < X.heap.size) := fun X h => h.1
          have svs := Fvs _ rvs
          go_wp2_with fail
          have dh_tm : W3.heap.size < W9.heap.size := by omega
          have da_tm : W6.heap.size < W9.heap.size := by omega
          have dv_tm : W8.heap.size < W9.heap.size := by omega
          have dvs_tm : gv < W9.heap.size := by omega
          have d0_tm : w.heap.size ≤ W9.heap.size := by have := hB.size; omega
          have sB := hB.size
          refine wp_cut (fun X => Below w.heap.size w X ∧ Row X W3.heap.size (.cells #[.string (S r.num), .string (S (r.den : Int)), .slice p m c] 49) ∧ Row X W6.heap.size (.cells #[.string (S a.lo.num), .string (S (a.lo.den : Int)), .string (S a.hi.num), .string (S (a.hi.den : Int))] 29) ∧ Row X W8.heap.size (.cells #[.string (S v.num), .string (S (v.den : Int))] 26) ∧ Row X gv (.cells curv 26) ∧ Row X W9.heap.size (.cells (tCells TM (m + 1) 0).toArray 3) ∧ PAt X p l) ⟨BW, RWk, RWk, RWk, RWk, RWk, (by first | exact PAt.below hp BW)⟩ ?_
          clear rh
          clear sh ch0 ch1 ch2
          clear ra
          clear sa ca0 ca1 ca2 ca3
          clear rv
          clear sv cv0 cv1
          clear rvs
          clear svs
          clear hB sB hp
          rintro V11 ⟨hB, rh, ra, rv, rvs, rtm, hp⟩
          obtain ⟨sh, ch0, ch1, ch2⟩ := Fh _ rh
          obtain ⟨sa, ca0, ca1, ca2, ca3⟩ := Fa _ ra
          obtain ⟨sv, cv0, cv1⟩ := Fv _ rv
          have svs := Fvs _ rvs
          have Ftm : ∀ X, Row X W9.heap.size (.cells (tCells TM (m + 1) 0).toArray 3) → (W9.heap.size < X.heap.size) := fun X h => h.1
          have stm := Ftm _ rtm
          clear hmk hmk2
          have NIP : (3 : TypeId) ≠ 53 := by decide
          clear sh ch0 ch1 ch2
          clear sa ca0 ca1 ca2 ca3
          clear sv cv0 cv1
          clear svs
          clear stm
          go_loopw [24] (fun v24 wr => ∃ j : Nat, v24 = .int .i64 (j : Int) ∧ j ≤ m ∧ PAt wr p l ∧ Below w.heap.size w wr ∧ Row wr W3.heap.size (.cells #[.string (S r.num), .string (S (r.den : Int)), .slice p m c] 49) ∧ Row wr W6.heap.size (.cells #[.string (S a.lo.num), .string (S (a.lo.den : Int)), .string (S a.hi.num), .string (S (a.hi.den : Int))] 29) ∧ Row wr W8.heap.size (.cells #[.string (S v.num), .string (S (v.den : Int))] 26) ∧ Row wr gv (.cells curv 26) ∧ Row wr (W9.heap.size) (.cells (tCells TM (m + 1) j).toArray 3)) (fun v24 _ => (m - intOf v24).toNat)
          case atStart => exact ⟨0, rfl, Nat.zero_le _, hp, hB, rh, ra, rv, rvs, rtm⟩
          case round =>
            clear hB rh ra rv rvs rtm hp
            obtain ⟨j, rfl, hjm, hp, hB, rh, ra, rv, rvs, rtm⟩ := hrel
            rcases Nat.lt_or_ge j m with hlt | hge
            · have hlt' : j < l.length := by rw [HM0.out]; exact hlt
              obtain ⟨g, cur, hpg, rg, g0, -, -, -, -⟩ := PAt.at hp hlt'
              rw [HTl.out j hlt] at g0
              subst hpg
              have tj : (tCells TM (m + 1) j).toArray[j]? = some (.int .i64 0) := by rw [List.getElem?_toArray]; simp [tCells, show j < m + 1 by omega]
              have fj : wr.frozen? ⟨W9.heap.size, j, none⟩ = false := frozen_of_row _ _ j _ _ rtm.2
              have hjI : (j : Int) < (m : Int) := by omega
              have hjI2 : (j : Int) < (m : Int) + 1 := by omega
              clear Fh
              have Fh : ∀ X, Row X W3.heap.size (.cells #[.string (S r.num), .string (S (r.den : Int)), .slice (some ⟨g, 0, none⟩) m c] 49) → (W3.heap.size < X.heap.size ∧ X.cell? ⟨W3.heap.size, 0, none⟩ = some (.string (S r.num)) ∧ X.cell? ⟨W3.heap.size, 1, none⟩ = some (.string (S (r.den : Int))) ∧ X.cell? ⟨W3.heap.size, 2, none⟩ = some (.slice (some ⟨g, 0, none⟩) m c)) := fun X h => ⟨h.1, Row.cell_at h 0 rfl, Row.cell_at h 1 rfl, Row.cell_at h 2 rfl⟩
              obtain ⟨sh, ch0, ch1, ch2⟩ := Fh _ rh
              obtain ⟨sa, ca0, ca1, ca2, ca3⟩ := Fa _ ra
              obtain ⟨sv, cv0, cv1⟩ := Fv _ rv
              have svs := Fvs _ rvs
              clear Ftm
              have Ftm : ∀ X, Row X W9.heap.size (.cells (tCells TM (m + 1) j).toArray 3) → (W9.heap.size < X.heap.size ∧ X.cell? ⟨W9.heap.size, j, none⟩ = some (.int .i64 0)) := fun X h => ⟨h.1, Row.cell_at h _ tj⟩
              obtain ⟨stm, ctm0⟩ := Ftm _ rtm
              have Fg : ∀ X, Row X g (.cells cur 53) → (g < X.heap.size ∧ X.cell? ⟨g, j * 5, none⟩ = some (.int .i64 (TM j : Int))) := fun X h => ⟨h.1, Row.cell_at h _ g0⟩
              obtain ⟨sg, cg0⟩ := Fg _ rg
              go_wp2
              go_roundw
              case rel => exact ⟨j + 1, by go_num, by omega, pat_set hp rtm NIP _ _, BW, RWk, RWk, RWk, RWk, rtm.set_same (tCells_set TM (by omega))⟩
              case measure => simp [intOf]; omega
            · obtain rfl : m = j := by omega
              have tj : (tCells TM (m + 1) m).toArray[m]? = some (.int .i64 0) := by simp [tCells]
              have fj : wr.frozen? ⟨W9.heap.size, m, none⟩ = false := frozen_of_row _ _ m _ _ rtm.2
              have hjI2 : (m : Int) < (m : Int) + 1 := by omega
              obtain ⟨sh, ch0, ch1, ch2⟩ := Fh _ rh
              obtain ⟨sa, ca0, ca1, ca2, ca3⟩ := Fa _ ra
              obtain ⟨sv, cv0, cv1⟩ := Fv _ rv
              have svs := Fvs _ rvs
              clear Ftm
              have Ftm : ∀ X, Row X W9.heap.size (.cells (tCells TM (m + 1) m).toArray 3) → (W9.heap.size < X.heap.size ∧ X.cell? ⟨W9.heap.size, m, none⟩ = some (.int .i64 0)) := fun X h => ⟨h.1, Row.cell_at h _ tj⟩
              obtain ⟨stm, ctm0⟩ := Ftm _ rtm
              go_upto_region 36 with fail
              have sB := hB.size
              refine wp_cut (fun X => Below w.heap.size w X ∧ PAt X p l ∧ Row X W3.heap.size (.cells #[.string (S r.num), .string (S (r.den : Int)), .slice p m c] 49) ∧ Row X W6.heap.size (.cells #[.string (S a.lo.num), .string (S (a.lo.den : Int)), .string (S a.hi.num), .string (S (a.hi.den : Int))] 29) ∧ Row X W8.heap.size (.cells #[.string (S v.num), .string (S (v.den : Int))] 26) ∧ Row X gv (.cells curv 26) ∧ Row X (W9.heap.size) (.cells (tCells TM (m + 1) (m + 1)).toArray 3)) ⟨BW, pat_set hp rtm NIP _ _, RWk, RWk, RWk, RWk, by have h9 := rtm.set_same (v := .int .i64 (TM m : Int)) (tCells_set TM (Nat.lt_succ_self m)); rw [HTm.out] at h9; exact h9⟩ ?_
              clear tj fj hjI2 sB
              clear sh ch0 ch1 ch2
              clear sa ca0 ca1 ca2 ca3
              clear sv cv0 cv1
              clear svs
              clear stm ctm0
              clear hB hp rh ra rv rvs rtm
              rintro Y1 ⟨hB, hp, rh, ra, rv, rvs, rtm⟩
              obtain ⟨sh, ch0, ch1, ch2⟩ := Fh _ rh
              obtain ⟨sa, ca0, ca1, ca2, ca3⟩ := Fa _ ra
              obtain ⟨sv, cv0, cv1⟩ := Fv _ rv
              have svs := Fvs _ rvs
              clear Ftm
              have Ftm : ∀ X, Row X W9.heap.size (.cells (tCells TM (m + 1) (m + 1)).toArray 3) → (W9.heap.size < X.heap.size) := fun X h => h.1
              have stm := Ftm _ rtm
              go_wp2_with fail
              clear sh ch0 ch1 ch2
              clear sa ca0 ca1 ca2 ca3
              clear sv cv0 cv1
              clear svs
              clear stm
              go_loopw [25] (fun v25 wr => ∃ i : Nat, v25 = .int .i64 (i : Int) ∧ i ≤ m + 1 ∧ PAt wr p l ∧ Below w.heap.size w wr ∧ Row wr W3.heap.size (.cells #[.string (S r.num), .string (S (r.den : Int)), .slice p m c] 49) ∧ Row wr W6.heap.size (.cells #[.string (S a.lo.num), .string (S (a.lo.den : Int)), .string (S a.hi.num), .string (S (a.hi.den : Int))] 29) ∧ Row wr W8.heap.size (.cells #[.string (S v.num), .string (S (v.den : Int))] 26) ∧ Row wr gv (.cells curv 26) ∧ Row wr W9.heap.size (.cells (tCells TM (m + 1) (m + 1)).toArray 3)) (fun v25 _ => (m + 1 - intOf v25).toNat)
              case atStart => exact ⟨0, rfl, Nat.zero_le _, hp, hB, rh, ra, rv, rvs, rtm⟩
              case round =>
                clear hB hp rh ra rv rvs rtm
                obtain ⟨i, rfl, him, hp, hB, rh, ra, rv, rvs, rtm⟩ := hrel
                rcases Nat.lt_or_ge i (m + 1) with hlt | hge
                · obtain ⟨sh, ch0, ch1, ch2⟩ := Fh _ rh
                  obtain ⟨sa, ca0, ca1, ca2, ca3⟩ := Fa _ ra
                  obtain ⟨sv, cv0, cv1⟩ := Fv _ rv
                  have svs := Fvs _ rvs
                  have stm := Ftm _ rtm
                  have hi1 : (i : Int) < (m : Int) + 1 := by omega
                  go_wp2_with fail
                  clear sh ch0 ch1 ch2
                  clear sa ca0 ca1 ca2 ca3
                  clear sv cv0 cv1
                  clear svs
                  clear stm
                  go_loopw [26] (fun v26 wr => ∃ k : Nat, v26 = .int .i64 (k : Int) ∧ k ≤ m + 1 ∧ PAt wr p l ∧ Below w.heap.size w wr ∧ Row wr W3.heap.size (.cells #[.string (S r.num), .string (S (r.den : Int)), .slice p m c] 49) ∧ Row wr W6.heap.size (.cells #[.string (S a.lo.num), .string (S (a.lo.den : Int)), .string (S a.hi.num), .string (S (a.hi.den : Int))] 29) ∧ Row wr W8.heap.size (.cells #[.string (S v.num), .string (S (v.den : Int))] 26) ∧ Row wr gv (.cells curv 26) ∧ Row wr W9.heap.size (.cells (tCells TM (m + 1) (m + 1)).toArray 3)) (fun v26 _ => (m + 1 - intOf v26).toNat)
                  case atStart => exact ⟨0, rfl, Nat.zero_le _, hp, hB, rh, ra, rv, rvs, rtm⟩
                  case round =>
                    clear hB hp rh ra rv rvs rtm
                    obtain ⟨k, rfl, hkm, hp, hB, rh, ra, rv, rvs, rtm⟩ := hrel
                    rcases Nat.lt_or_ge k (m + 1) with hlk | hgk
                    · have hk1 : (k : Int) < (m : Int) + 1 := by omega
                      obtain ⟨u0, u1⟩ := own_vals rvs HXV.out hlk
                      obtain ⟨z0, z1⟩ := own_vals rvs HXV.out hlt
                      have y0 : (tCells TM (m + 1) (m + 1)).toArray[k]? = some (.int .i64 (TM k : Int)) := by rw [List.getElem?_toArray]; exact tCells_get TM hlk hlk
                      have y1 : (tCells TM (m + 1) (m + 1)).toArray[i]? = some (.int .i64 (TM i : Int)) := by rw [List.getElem?_toArray]; exact tCells_get TM hlt hlt
                      have ML5 := fun W (H : Env W) => dlow (j := 2) (k := 58) EX.r2 (HUd.out k) (by omega) (HTt.out k) (HTt.out i) W H
                      obtain ⟨y, hy⟩ : ∃ y, y = U k - far r (dist (TM k) (TM i)) := ⟨_, rfl⟩
                      have dy : QDig 68 y := by rw [hy]; exact QDig.sub (j := 58) (k := 9) (HUd.out k) (far_dig2 EX.r2 (by have := HTt.out k; have := HTt.out i; unfold dist; omega))
                      have hyu : y ≤ U i := by rw [hy]; exact HUS.out i k
                      rw [← hy] at ML5
                      have MCP := fun W (H : Env W) => qcompare (U i) y ((HUd.out i).mono (by omega)) (dy.mono (by omega)) W H
                      have hcm : 0 ≤ cmpQ (U i) y := cmpQ_ge.2 hyu
                      unfold QOk at ML5
                      unfold CmpOk at MCP
                      unfold Q at ML5 MCP
                      clear hy dy hyu
                      generalize cmpQ (U i) y = cm at *
                      have hcm2 : ¬ (cm < 0) := by omega
                      obtain ⟨sh, ch0, ch1, ch2⟩ := Fh _ rh
                      obtain ⟨sa, ca0, ca1, ca2, ca3⟩ := Fa _ ra
                      obtain ⟨sv, cv0, cv1⟩ := Fv _ rv
                      clear Fvs
                      have Fvs : ∀ X, Row X gv (.cells curv 26) → (gv < X.heap.size ∧ X.cell? ⟨gv, k * 2, none⟩ = some (.string (S (U k).num)) ∧ X.cell? ⟨gv, k * 2 + 1, none⟩ = some (.string (S ((U k).den : Int))) ∧ X.cell? ⟨gv, i * 2, none⟩ = some (.string (S (U i).num)) ∧ X.cell? ⟨gv, i * 2 + 1, none⟩ = some (.string (S ((U i).den : Int)))) := fun X h => ⟨h.1, Row.cell_at h _ u0, Row.cell_at h _ u1, Row.cell_at h _ z0, Row.cell_at h _ z1⟩
                      obtain ⟨svs, cvs0, cvs1, cvs2, cvs3⟩ := Fvs _ rvs
                      clear Ftm
                      have Ftm : ∀ X, Row X W9.heap.size (.cells (tCells TM (m + 1) (m + 1)).toArray 3) → (W9.heap.size < X.heap.size ∧ X.cell? ⟨W9.heap.size, k, none⟩ = some (.int .i64 (TM k : Int)) ∧ X.cell? ⟨W9.heap.size, i, none⟩ = some (.int .i64 (TM i : Int))) := fun X h => ⟨h.1, Row.cell_at h _ y0, Row.cell_at h _ y1⟩
                      obtain ⟨stm, ctm0, ctm1⟩ := Ftm _ rtm
                      go_wp2_with fail
                      have dh_rr := rh.1
                      have da_rr := ra.1
                      have dv_rr := rv.1
                      have dvs_rr := rvs.1
                      have dtm_rr := rtm.1
                      have d0_rr := hB.size
                      refine wp_region_late 19 [17] [.val (.pointer (some ⟨W3.heap.size, 0, none⟩)), .val (.agg #[.string (S r.num), .string (S (r.den : Int))]), .val (.slice (some ⟨W9.heap.size, 0, none⟩) (m + 1) (m + 1)), .val (.int .i64 (k : Int)), .val (.pointer (some ⟨W9.heap.size, k, none⟩)), .val (.int .i64 (TM k : Int)), .val (.slice (some ⟨gv, 0, none⟩) (m + 1) cv), .val (.int .i64 (k : Int)), .val (.pointer (some ⟨gv, k * 2, none⟩)), .val (.agg #[.string (S (U k).num), .string (S ((U k).den : Int))]), .val (.slice (some ⟨W9.heap.size, 0, none⟩) (m + 1) (m + 1)), .val (.int .i64 (i : Int)), .val (.pointer (some ⟨W9.heap.size, i, none⟩)), .val (.int .i64 (TM i : Int)), .val (.tuple #[.agg #[.string (S y.num), .string (S (y.den : Int))], .int .i64 0]), .val (.tuple #[.agg #[.string (S y.num), .string (S (y.den : Int))], .int .i64 0]), .val (.agg #[.string (S y.num), .string (S (y.den : Int))]), .val (.int .i64 0), .say (fresh _ (.cells #[.string ⟨#[]⟩, .string ⟨#[]⟩] 26))] [27] (by kernel_rfl) (by kernel_rfl) (by kernel_rfl) rfl ⟨fresh_mono _ _, trivial⟩ (allItems.cons qi0 (allItems.cons (qi1 fun X h => Fh X (Row.below rh h)) (allItems.cons qi0 (allItems.cons qi0 (allItems.cons (qif hk1) (allItems.cons (qi1 fun X h => Ftm X (Row.below rtm h)) (allItems.cons qi0 (allItems.cons qi0 (allItems.cons (qif hk1) (allItems.cons (qi1 fun X h => Fvs X (Row.below rvs h)) (allItems.cons qi0 (allItems.cons qi0 (allItems.cons (qif hi1) (allItems.cons (qi1 fun X h => Ftm X (Row.below rtm h)) (allItems.cons (qi2 fun X h => ML5 X (he.below (hB.trans (h.mono hB.size)))) (allItems.cons qi0 (allItems.cons qi0 (allItems.cons qi0 (allItems.cons qia trivial))))))))))))))))))) ?_
                      rintro W h1
                      clear sh ch0 ch1 ch2
                      clear sa ca0 ca1 ca2 ca3
                      clear sv cv0 cv1
                      clear svs cvs0 cvs1 cvs2 cvs3
                      clear stm ctm0 ctm1
                      replace hB := hB.trans (h1.mono hB.size)
                      replace rh := Row.below rh h1
                      replace ra := Row.below ra h1
                      replace rv := Row.below rv h1
                      replace rvs := Row.below rvs h1
                      replace rtm := Row.below rtm h1
                      replace hp := PAt.below hp h1
                      clear h1
                      obtain ⟨sh, ch0, ch1, ch2⟩ := Fh _ rh
                      obtain ⟨sa, ca0, ca1, ca2, ca3⟩ := Fa _ ra
                      obtain ⟨sv, cv0, cv1⟩ := Fv _ rv
                      obtain ⟨svs, cvs0, cvs1, cvs2, cvs3⟩ := Fvs _ rvs
                      obtain ⟨stm, ctm0, ctm1⟩ := Ftm _ rtm
                      simp only [setItems, List.setIfInBounds_toArray, List.set_cons_succ, List.set_cons_zero, List.take_succ_cons, List.take_zero, List.drop_succ_cons, List.drop_zero]
                      rintro _ ⟨prr, rfl, hrr, rrr⟩
                      replace dh_rr := Nat.lt_of_lt_of_le dh_rr hrr
                      replace da_rr := Nat.lt_of_lt_of_le da_rr hrr
                      replace dv_rr := Nat.lt_of_lt_of_le dv_rr hrr
                      replace dvs_rr := Nat.lt_of_lt_of_le dvs_rr hrr
                      replace dtm_rr := Nat.lt_of_lt_of_le dtm_rr hrr
                      replace d0_rr := Nat.le_trans d0_rr hrr
                      have Frr : ∀ X, Row X prr (.cells #[.string ⟨#[]⟩, .string ⟨#[]⟩] 26) → (prr < X.heap.size ∧ X.cell? ⟨prr, 0, none⟩ = some (.string ⟨#[]⟩) ∧ X.cell? ⟨prr, 1, none⟩ = some (.string ⟨#[]⟩) ∧ X.frozen? ⟨prr, 0, none⟩ = false ∧ X.frozen? ⟨prr, 1, none⟩ = false) := fun X h => ⟨h.1, Row.cell_at h 0 rfl, Row.cell_at h 1 rfl, frozen_of_row _ _ 0 _ _ h.2, frozen_of_row _ _ 1 _ _ h.2⟩
                      obtain ⟨srr, crr0, crr1, frr0, frr1⟩ := Frr _ rrr
                      intro _
                      go_wp2_with fail
                      unfold normalQ
                      go_wp2_with fail
                      have sB := hB.size
                      refine wp_cut (fun X => Below w.heap.size w X ∧ Row X W3.heap.size (.cells #[.string (S r.num), .string (S (r.den : Int)), .slice p m c] 49) ∧ Row X W6.heap.size (.cells #[.string (S a.lo.num), .string (S (a.lo.den : Int)), .string (S a.hi.num), .string (S (a.hi.den : Int))] 29) ∧ Row X W8.heap.size (.cells #[.string (S v.num), .string (S (v.den : Int))] 26) ∧ Row X gv (.cells curv 26) ∧ Row X W9.heap.size (.cells (tCells TM (m + 1) (m + 1)).toArray 3) ∧ Row X prr (.cells #[.string (S y.num), .string (S (y.den : Int))] 26) ∧ PAt X p l) ⟨BW, RWk, RWk, RWk, RWk, RWk, RWk, (by first | with_reducible exact pat_set2 hp rrr NER | exact PAt.below hp BW)⟩ ?_
                      clear rh
                      clear sh ch0 ch1 ch2
                      clear ra
                      clear sa ca0 ca1 ca2 ca3
                      clear rv
                      clear sv cv0 cv1
                      clear rvs
                      clear svs cvs0 cvs1 cvs2 cvs3
                      clear rtm
                      clear stm ctm0 ctm1
                      clear rrr
                      clear srr crr0 crr1 frr0 frr1
                      clear hB sB hp
                      rintro V12 ⟨hB, rh, ra, rv, rvs, rtm, rrr, hp⟩
                      obtain ⟨sh, ch0, ch1, ch2⟩ := Fh _ rh
                      obtain ⟨sa, ca0, ca1, ca2, ca3⟩ := Fa _ ra
                      obtain ⟨sv, cv0, cv1⟩ := Fv _ rv
                      obtain ⟨svs, cvs0, cvs1, cvs2, cvs3⟩ := Fvs _ rvs
                      obtain ⟨stm, ctm0, ctm1⟩ := Ftm _ rtm
                      clear Frr
                      have Frr : ∀ X, Row X prr (.cells #[.string (S y.num), .string (S (y.den : Int))] 26) → (prr < X.heap.size ∧ X.cell? ⟨prr, 0, none⟩ = some (.string (S y.num)) ∧ X.cell? ⟨prr, 1, none⟩ = some (.string (S (y.den : Int))) ∧ X.frozen? ⟨prr, 0, none⟩ = false ∧ X.frozen? ⟨prr, 1, none⟩ = false) := fun X h => ⟨h.1, Row.cell_at h 0 rfl, Row.cell_at h 1 rfl, frozen_of_row _ _ 0 _ _ h.2, frozen_of_row _ _ 1 _ _ h.2⟩
                      obtain ⟨srr, crr0, crr1, frr0, frr1⟩ := Frr _ rrr
                      refine wp_region_vals [.int .i64 0, .bool false, .bool false, .slice (some ⟨gv, 0, none⟩) (m + 1) cv, .int .i64 (i : Int), .pointer (some ⟨gv, i * 2, none⟩), .agg #[.string (S (U i).num), .string (S ((U i).den : Int))], .agg #[.string (S y.num), .string (S (y.den : Int))], .int .i64 cm, .bool false, .bool false] (by kernel_rfl) (by kernel_rfl) rfl (allVals.cons qv0 (allVals.cons qv0 (allVals.cons qv0 (allVals.cons qv0 (allVals.cons qv0 (allVals.cons (qvf hi1) (allVals.cons (qv1 fun X h => Fvs X (Row.below rvs h)) (allVals.cons (qv1 fun X h => Frr X (Row.below rrr h)) (allVals.cons (qv2 fun X h => MCP X (he.below (hB.trans (h.mono hB.size)))) (allVals.cons (qvf hcm2) (allVals.cons qv0 trivial))))))))))) ?_
                      rintro W h1
                      clear sh ch0 ch1 ch2
                      clear sa ca0 ca1 ca2 ca3
                      clear sv cv0 cv1
                      clear svs cvs0 cvs1 cvs2 cvs3
                      clear stm ctm0 ctm1
                      clear srr crr0 crr1 frr0 frr1
                      replace hB := hB.trans (h1.mono hB.size)
                      replace rh := Row.below rh h1
                      replace ra := Row.below ra h1
                      replace rv := Row.below rv h1
                      replace rvs := Row.below rvs h1
                      replace rtm := Row.below rtm h1
                      replace rrr := Row.below rrr h1
                      replace hp := PAt.below hp h1
                      clear h1
                      obtain ⟨sh, ch0, ch1, ch2⟩ := Fh _ rh
                      obtain ⟨sa, ca0, ca1, ca2, ca3⟩ := Fa _ ra
                      obtain ⟨sv, cv0, cv1⟩ := Fv _ rv
                      obtain ⟨svs, cvs0, cvs1, cvs2, cvs3⟩ := Fvs _ rvs
                      obtain ⟨stm, ctm0, ctm1⟩ := Ftm _ rtm
                      obtain ⟨srr, crr0, crr1, frr0, frr1⟩ := Frr _ rrr
                      simp only [setVals, List.setIfInBounds_toArray, List.set_cons_succ, List.set_cons_zero]
                      go_wp2
                      go_roundw
                      case rel => exact ⟨k + 1, by go_num, by omega, (by first | exact PAt.below hp BW), BW, RWh, RWh, RWh, RWh, RWh⟩
                      case measure => simp [intOf]; omega
                    · obtain rfl : k = m + 1 := by omega
                      obtain ⟨sh, ch0, ch1, ch2⟩ := Fh _ rh
                      obtain ⟨sa, ca0, ca1, ca2, ca3⟩ := Fa _ ra
                      obtain ⟨sv, cv0, cv1⟩ := Fv _ rv
                      have svs := Fvs _ rvs
                      have stm := Ftm _ rtm
                      go_wp2
                      go_roundw
                      case rel => exact ⟨i + 1, by go_num, by omega, (by first | exact PAt.below hp BW), BW, RWh, RWh, RWh, RWh, RWh⟩
                      case measure => simp [intOf]; omega
                · obtain rfl : i = m + 1 := by omega
                  obtain ⟨sh, ch0, ch1, ch2⟩ := Fh _ rh
                  obtain ⟨sa, ca0, ca1, ca2, ca3⟩ := Fa _ ra
                  obtain ⟨sv, cv0, cv1⟩ := Fv _ rv
                  have svs := Fvs _ rvs
                  have stm := Ftm _ rtm
                  have da : IDig 15 a := known_dig (EX.r2.mono (by omega)) EX.ivs EX.ht EX.ok.times EX.knows
                  have MQ := fun W (H : Env W) => lof (n := 1) (d := 1000) (by decide) (by decide) (by decide) W H
                  have dq : QDig 4 (Rat.divInt 1 1000) := QDig.ofInt (by decide) (by unfold Dig; omega) (by unfold Dig; omega)
                  have MA := fun W (H : Env W) => qadd (j := 15) (k := 4) da.2 dq (by omega) W H
                  have MU := fun W (H : Env W) => qsub (j := 15) (k := 4) da.1 dq (by omega) W H
                  have dab : QDig 20 (a.hi + Rat.divInt 1 1000) := QDig.add (j := 15) (k := 4) da.2 dq
                  have dbe : QDig 20 (a.lo - Rat.divInt 1 1000) := QDig.sub (j := 15) (k := 4) da.1 dq
                  have HOV := Lib.hid EX.over
                  have HUN := Lib.hid EX.under
                  unfold QOk at MA MU
                  unfold Q at *
                  generalize a.hi + Rat.divInt 1 1000 = ab at *
                  generalize a.lo - Rat.divInt 1 1000 = be at *
                  generalize Rat.divInt 1 1000 = qq at *
                  clear da dq
                  go_wp2_with fail
                  clear rv
                  clear sv cv0 cv1
                  clear Fv
                  clear rvs
                  clear svs
                  clear Fvs
                  clear rtm
                  clear stm
                  clear Ftm
                  have dh_ab := rh.1
                  have da_ab := ra.1
                  have d0_ab := hB.size
                  refine wp_region_late 8 [6] [.val (.pointer (some ⟨W6.heap.size, 2, none⟩)), .val (.agg #[.string (S a.hi.num), .string (S (a.hi.den : Int))]), .val (.agg #[.string (S qq.num), .string (S (qq.den : Int))]), .val (.tuple #[.agg #[.string (S ab.num), .string (S (ab.den : Int))], .int .i64 0]), .val (.tuple #[.agg #[.string (S ab.num), .string (S (ab.den : Int))], .int .i64 0]), .val (.agg #[.string (S ab.num), .string (S (ab.den : Int))]), .val (.int .i64 0), .say (fresh _ (.cells #[.string ⟨#[]⟩, .string ⟨#[]⟩] 26))] [29] (by kernel_rfl) (by kernel_rfl) (by kernel_rfl) rfl ⟨fresh_mono _ _, trivial⟩ (allItems.cons qi0 (allItems.cons (qi1 fun X h => Fa X (Row.below ra h)) (allItems.cons (qi2 fun X h => MQ X (he.below (hB.trans (h.mono hB.size)))) (allItems.cons (qi2 fun X h => MA X (he.below (hB.trans (h.mono hB.size)))) (allItems.cons qi0 (allItems.cons qi0 (allItems.cons qi0 (allItems.cons qia trivial)))))))) ?_
                  rintro W h1
                  clear sh ch0 ch1 ch2
                  clear sa ca0 ca1 ca2 ca3
                  replace hB := hB.trans (h1.mono hB.size)
                  replace rh := Row.below rh h1
                  replace ra := Row.below ra h1
                  replace hp := PAt.below hp h1
                  clear h1
                  obtain ⟨sh, ch0, ch1, ch2⟩ := Fh _ rh
                  obtain ⟨sa, ca0, ca1, ca2, ca3⟩ := Fa _ ra
                  simp only [setItems, List.setIfInBounds_toArray, List.set_cons_succ, List.set_cons_zero, List.take_succ_cons, List.take_zero, List.drop_succ_cons, List.drop_zero]
                  rintro _ ⟨pab, rfl, hab, rab⟩
                  replace dh_ab := Nat.lt_of_lt_of_le dh_ab hab
                  replace da_ab := Nat.lt_of_lt_of_le da_ab hab
                  replace d0_ab := Nat.le_trans d0_ab hab
                  have Fab : ∀ X, Row X pab (.cells #[.string ⟨#[]⟩, .string ⟨#[]⟩] 26) → (pab < X.heap.size ∧ X.cell? ⟨pab, 0, none⟩ = some (.string ⟨#[]⟩) ∧ X.cell? ⟨pab, 1, none⟩ = some (.string ⟨#[]⟩) ∧ X.frozen? ⟨pab, 0, none⟩ = false ∧ X.frozen? ⟨pab, 1, none⟩ = false) := fun X h => ⟨h.1, Row.cell_at h 0 rfl, Row.cell_at h 1 rfl, frozen_of_row _ _ 0 _ _ h.2, frozen_of_row _ _ 1 _ _ h.2⟩
                  obtain ⟨sab, cab0, cab1, fab0, fab1⟩ := Fab _ rab
                  intro _
                  go_wp2_with fail
                  unfold normalQ
                  go_wp2_with fail
                  have sB := hB.size
                  refine wp_cut (fun X => Below w.heap.size w X ∧ Row X W3.heap.size (.cells #[.string (S r.num), .string (S (r.den : Int)), .slice p m c] 49) ∧ Row X W6.heap.size (.cells #[.string (S a.lo.num), .string (S (a.lo.den : Int)), .string (S a.hi.num), .string (S (a.hi.den : Int))] 29) ∧ Row X pab (.cells #[.string (S ab.num), .string (S (ab.den : Int))] 26) ∧ PAt X p l) ⟨BW, RWk, RWk, RWk, (by first | with_reducible exact pat_set2 hp rab NER | with_reducible exact pat_set2 hp rbe NER | exact PAt.below hp BW)⟩ ?_
                  clear rh
                  clear sh ch0 ch1 ch2
                  clear ra
                  clear sa ca0 ca1 ca2 ca3
                  clear rab
                  clear sab cab0 cab1 fab0 fab1
                  clear hB sB hp
                  rintro V12 ⟨hB, rh, ra, rab, hp⟩
                  obtain ⟨sh, ch0, ch1, ch2⟩ := Fh _ rh
                  obtain ⟨sa, ca0, ca1, ca2, ca3⟩ := Fa _ ra
                  clear Fab
                  have Fab : ∀ X, Row X pab (.cells #[.string (S ab.num), .string (S (ab.den : Int))] 26) → (pab < X.heap.size ∧ X.cell? ⟨pab, 0, none⟩ = some (.string (S ab.num)) ∧ X.cell? ⟨pab, 1, none⟩ = some (.string (S (ab.den : Int))) ∧ X.frozen? ⟨pab, 0, none⟩ = false ∧ X.frozen? ⟨pab, 1, none⟩ = false) := fun X h => ⟨h.1, Row.cell_at h 0 rfl, Row.cell_at h 1 rfl, frozen_of_row _ _ 0 _ _ h.2, frozen_of_row _ _ 1 _ _ h.2⟩
                  obtain ⟨sab, cab0, cab1, fab0, fab1⟩ := Fab _ rab
                  have dh_be := rh.1
                  have da_be := ra.1
                  have dab_be := rab.1
                  have d0_be := hB.size
                  refine wp_region_late 8 [6] [.val (.pointer (some ⟨W6.heap.size, 0, none⟩)), .val (.agg #[.string (S a.lo.num), .string (S (a.lo.den : Int))]), .val (.agg #[.string (S qq.num), .string (S (qq.den : Int))]), .val (.tuple #[.agg #[.string (S be.num), .string (S (be.den : Int))], .int .i64 0]), .val (.tuple #[.agg #[.string (S be.num), .string (S (be.den : Int))], .int .i64 0]), .val (.agg #[.string (S be.num), .string (S (be.den : Int))]), .val (.int .i64 0), .say (fresh _ (.cells #[.string ⟨#[]⟩, .string ⟨#[]⟩] 26))] [31] (by kernel_rfl) (by kernel_rfl) (by kernel_rfl) rfl ⟨fresh_mono _ _, trivial⟩ (allItems.cons qi0 (allItems.cons (qi1 fun X h => Fa X (Row.below ra h)) (allItems.cons (qi2 fun X h => MQ X (he.below (hB.trans (h.mono hB.size)))) (allItems.cons (qi2 fun X h => MU X (he.below (hB.trans (h.mono hB.size)))) (allItems.cons qi0 (allItems.cons qi0 (allItems.cons qi0 (allItems.cons qia trivial)))))))) ?_
                  rintro W h1
                  clear sh ch0 ch1 ch2
                  clear sa ca0 ca1 ca2 ca3
                  clear sab cab0 cab1 fab0 fab1
                  replace hB := hB.trans (h1.mono hB.size)
                  replace rh := Row.below rh h1
                  replace ra := Row.below ra h1
                  replace rab := Row.below rab h1
                  replace hp := PAt.below hp h1
                  clear h1
                  obtain ⟨sh, ch0, ch1, ch2⟩ := Fh _ rh
                  obtain ⟨sa, ca0, ca1, ca2, ca3⟩ := Fa _ ra
                  obtain ⟨sab, cab0, cab1, fab0, fab1⟩ := Fab _ rab
                  simp only [setItems, List.setIfInBounds_toArray, List.set_cons_succ, List.set_cons_zero, List.take_succ_cons, List.take_zero, List.drop_succ_cons, List.drop_zero]
                  rintro _ ⟨pbe, rfl, hbe, rbe⟩
                  replace dh_be := Nat.lt_of_lt_of_le dh_be hbe
                  replace da_be := Nat.lt_of_lt_of_le da_be hbe
                  replace dab_be := Nat.lt_of_lt_of_le dab_be hbe
                  replace d0_be := Nat.le_trans d0_be hbe
                  have Fbe : ∀ X, Row X pbe (.cells #[.string ⟨#[]⟩, .string ⟨#[]⟩] 26) → (pbe < X.heap.size ∧ X.cell? ⟨pbe, 0, none⟩ = some (.string ⟨#[]⟩) ∧ X.cell? ⟨pbe, 1, none⟩ = some (.string ⟨#[]⟩) ∧ X.frozen? ⟨pbe, 0, none⟩ = false ∧ X.frozen? ⟨pbe, 1, none⟩ = false) := fun X h => ⟨h.1, Row.cell_at h 0 rfl, Row.cell_at h 1 rfl, frozen_of_row _ _ 0 _ _ h.2, frozen_of_row _ _ 1 _ _ h.2⟩
                  obtain ⟨sbe, cbe0, cbe1, fbe0, fbe1⟩ := Fbe _ rbe
                  intro _
                  go_wp2_with fail
                  unfold normalQ
                  go_wp2_with fail
                  clear Fa
                  have sB := hB.size
                  refine wp_cut (fun X => Below w.heap.size w X ∧ Row X W3.heap.size (.cells #[.string (S r.num), .string (S (r.den : Int)), .slice p m c] 49) ∧ Row X pab (.cells #[.string (S ab.num), .string (S (ab.den : Int))] 26) ∧ Row X pbe (.cells #[.string (S be.num), .string (S (be.den : Int))] 26) ∧ PAt X p l) ⟨BW, RWk, RWk, RWk, (by first | with_reducible exact pat_set2 hp rab NER | with_reducible exact pat_set2 hp rbe NER | exact PAt.below hp BW)⟩ ?_
                  clear rh
                  clear sh ch0 ch1 ch2
                  clear ra
                  clear sa ca0 ca1 ca2 ca3
                  clear rab
                  clear sab cab0 cab1 fab0 fab1
                  clear rbe
                  clear sbe cbe0 cbe1 fbe0 fbe1
                  clear hB sB hp
                  rintro V13 ⟨hB, rh, rab, rbe, hp⟩
                  obtain ⟨sh, ch0, ch1, ch2⟩ := Fh _ rh
                  obtain ⟨sab, cab0, cab1, fab0, fab1⟩ := Fab _ rab
                  clear Fbe
                  have Fbe : ∀ X, Row X pbe (.cells #[.string (S be.num), .string (S (be.den : Int))] 26) → (pbe < X.heap.size ∧ X.cell? ⟨pbe, 0, none⟩ = some (.string (S be.num)) ∧ X.cell? ⟨pbe, 1, none⟩ = some (.string (S (be.den : Int))) ∧ X.frozen? ⟨pbe, 0, none⟩ = false ∧ X.frozen? ⟨pbe, 1, none⟩ = false) := fun X h => ⟨h.1, Row.cell_at h 0 rfl, Row.cell_at h 1 rfl, frozen_of_row _ _ 0 _ _ h.2, frozen_of_row _ _ 1 _ _ h.2⟩
                  obtain ⟨sbe, cbe0, cbe1, fbe0, fbe1⟩ := Fbe _ rbe
                  clear sh ch0 ch1 ch2
                  clear sab cab0 cab1 fab0 fab1
                  clear sbe cbe0 cbe1 fbe0 fbe1
                  go_loopw [33, 34, 35] (fun v33 v34 v35 wr => ∃ j : Nat, v35 = .int .i64 (j : Int) ∧ j ≤ m ∧ v33 = .bool (exOver r l t ab j) ∧ v34 = .bool (exUnder r l t be j) ∧ PAt wr p l ∧ Below w.heap.size w wr ∧ Row wr W3.heap.size (.cells #[.string (S r.num), .string (S (r.den : Int)), .slice p m c] 49) ∧ Row wr pab (.cells #[.string (S ab.num), .string (S (ab.den : Int))] 26) ∧ Row wr pbe (.cells #[.string (S be.num), .string (S (be.den : Int))] 26)) (fun _ _ v35 _ => (m - intOf v35).toNat)
                  case atStart => exact ⟨0, rfl, Nat.zero_le _, rfl, rfl, hp, hB, rh, rab, rbe⟩
                  case round =>
                    clear hB hp rh rab rbe
                    obtain ⟨j, rfl, hjm, rfl, rfl, hp, hB, rh, rab, rbe⟩ := hrel
                    rcases Nat.lt_or_ge j m with hlt | hge
                    · have hlt' : j < l.length := by rw [HM0.out]; exact hlt
                      obtain ⟨q, hq⟩ : ∃ q, q = ptD l j := ⟨_, rfl⟩
                      obtain ⟨g, cur, hpg, rg, g0, g1, g2, g3, g4⟩ := PAt.at hp hlt'
                      rw [← hq] at g0 g1 g2 g3 g4
                      subst hpg
                      have hql : q ∈ l := hq ▸ ptD_mem hlt'
                      have hqt : q.t ≤ 1000000 := EX.ok.times q hql
                      have dq : IDig 2 q.iv := EX.ivs q hql
                      have ML6 := fun W (H : Env W) => dlow (j := 2) (k := 20) EX.r2 dab (by omega) ht3 hqt W H
                      have ML7 := fun W (H : Env W) => dlow (j := 2) (k := 2) EX.r2 dq.1 (by omega) hqt ht3 W H
                      obtain ⟨x1, hx1⟩ : ∃ x, x = ab - far r (dist t q.t) := ⟨_, rfl⟩
                      obtain ⟨x2, hx2⟩ : ∃ x, x = q.iv.lo - far r (dist q.t t) := ⟨_, rfl⟩
                      rw [← hx1] at ML6
                      rw [← hx2] at ML7
                      have dx1 : QDig 30 x1 := by rw [hx1]; exact QDig.sub (j := 20) (k := 9) dab (far_dig2 EX.r2 (by unfold dist; omega))
                      have dx2 : QDig 12 x2 := by rw [hx2]; exact QDig.sub (j := 2) (k := 9) dq.1 (far_dig2 EX.r2 (by unfold dist; omega))
                      have MC1 := fun W (H : Env W) => qcompare x1 q.iv.hi (dx1.mono (by omega)) (dq.2.mono (by omega)) W H
                      have MC2 := fun W (H : Env W) => qcompare x2 be (dx2.mono (by omega)) (dbe.mono (by omega)) W H
                      have eO : exOver r l t ab (j + 1) = (exOver r l t ab j || decide (0 < cmpQ x1 q.iv.hi)) := by rw [hx1, hq]; rfl
                      have eU : exUnder r l t be (j + 1) = (exUnder r l t be j || decide (0 < cmpQ x2 be)) := by rw [hx2, hq]; rfl
                      have HEO := Lib.hid eO
                      have HEU := Lib.hid eU
                      unfold QOk at ML6 ML7
                      unfold CmpOk at MC1 MC2
                      unfold Q at ML6 ML7 MC1 MC2
                      clear eO eU hx1 hx2 dx1 dx2 hq hql dq
                      generalize cmpQ x1 q.iv.hi = c1 at *
                      generalize cmpQ x2 be = c2 at *
                      generalize exOver r l t ab j = bo at *
                      generalize exUnder r l t be j = bu at *
                      have hjI : (j : Int) < (m : Int) := by omega
                      clear Fh
                      have Fh : ∀ X, Row X W3.heap.size (.cells #[.string (S r.num), .string (S (r.den : Int)), .slice (some ⟨g, 0, none⟩) m c] 49) → (W3.heap.size < X.heap.size ∧ X.cell? ⟨W3.heap.size, 0, none⟩ = some (.string (S r.num)) ∧ X.cell? ⟨W3.heap.size, 1, none⟩ = some (.string (S (r.den : Int))) ∧ X.cell? ⟨W3.heap.size, 2, none⟩ = some (.slice (some ⟨g, 0, none⟩) m c)) := fun X h => ⟨h.1, Row.cell_at h 0 rfl, Row.cell_at h 1 rfl, Row.cell_at h 2 rfl⟩
                      obtain ⟨sh, ch0, ch1, ch2⟩ := Fh _ rh
                      obtain ⟨sab, cab0, cab1, fab0, fab1⟩ := Fab _ rab
                      obtain ⟨sbe, cbe0, cbe1, fbe0, fbe1⟩ := Fbe _ rbe
                      have Fg : ∀ X, Row X g (.cells cur 53) → (g < X.heap.size ∧ X.cell? ⟨g, j * 5, none⟩ = some (.int .i64 (q.t : Int)) ∧ X.cell? ⟨g, j * 5 + 1, none⟩ = some (.string (S q.iv.lo.num)) ∧ X.cell? ⟨g, j * 5 + 2, none⟩ = some (.string (S (q.iv.lo.den : Int))) ∧ X.cell? ⟨g, j * 5 + 3, none⟩ = some (.string (S q.iv.hi.num)) ∧ X.cell? ⟨g, j * 5 + 4, none⟩ = some (.string (S (q.iv.hi.den : Int)))) := fun X h => ⟨h.1, Row.cell_at h _ g0, Row.cell_at h _ g1, Row.cell_at h _ g2, Row.cell_at h _ g3, Row.cell_at h _ g4⟩
                      obtain ⟨sg, cg0, cg1, cg2, cg3, cg4⟩ := Fg _ rg
                      go_wp2_with fail
                      have dab_pt : pab < wr.heap.size := by omega
                      have dbe_pt : pbe < wr.heap.size := by omega
                      have sB := hB.size
                      refine world_cut (fun X => Below w.heap.size w X ∧ Row X W3.heap.size (.cells #[.string (S r.num), .string (S (r.den : Int)), .slice (some ⟨g, 0, none⟩) m c] 49) ∧ Row X pab (.cells #[.string (S ab.num), .string (S (ab.den : Int))] 26) ∧ Row X pbe (.cells #[.string (S be.num), .string (S (be.den : Int))] 26) ∧ Row X g (.cells cur 53) ∧ Row X wr.heap.size (.cells #[.int .i64 (q.t : Int), .string (S q.iv.lo.num), .string (S (q.iv.lo.den : Int)), .string (S q.iv.hi.num), .string (S (q.iv.hi.den : Int))] 53) ∧ PAt X (some ⟨g, 0, none⟩) l) ⟨BW, RWk, RWk, RWk, RWk, RWk, (by first | exact PAt.below hp BW)⟩ ?_
                      clear rh
                      clear sh ch0 ch1 ch2
                      clear rab
                      clear sab cab0 cab1 fab0 fab1
                      clear rbe
                      clear sbe cbe0 cbe1 fbe0 fbe1
                      clear rg
                      clear sg cg0 cg1 cg2 cg3 cg4
                      clear hB sB hp
                      rintro V14 ⟨hB, rh, rab, rbe, rg, rpt, hp⟩
                      obtain ⟨sh, ch0, ch1, ch2⟩ := Fh _ rh
                      obtain ⟨sab, cab0, cab1, fab0, fab1⟩ := Fab _ rab
                      obtain ⟨sbe, cbe0, cbe1, fbe0, fbe1⟩ := Fbe _ rbe
                      obtain ⟨sg, cg0, cg1, cg2, cg3, cg4⟩ := Fg _ rg
                      have Fpt : ∀ X, Row X wr.heap.size (.cells #[.int .i64 (q.t : Int), .string (S q.iv.lo.num), .string (S (q.iv.lo.den : Int)), .string (S q.iv.hi.num), .string (S (q.iv.hi.den : Int))] 53) → (wr.heap.size < X.heap.size ∧ X.cell? ⟨wr.heap.size, 0, none⟩ = some (.int .i64 (q.t : Int)) ∧ X.cell? ⟨wr.heap.size, 1, none⟩ = some (.string (S q.iv.lo.num)) ∧ X.cell? ⟨wr.heap.size, 2, none⟩ = some (.string (S (q.iv.lo.den : Int))) ∧ X.cell? ⟨wr.heap.size, 3, none⟩ = some (.string (S q.iv.hi.num)) ∧ X.cell? ⟨wr.heap.size, 4, none⟩ = some (.string (S (q.iv.hi.den : Int)))) := fun X h => ⟨h.1, Row.cell_at h 0 rfl, Row.cell_at h 1 rfl, Row.cell_at h 2 rfl, Row.cell_at h 3 rfl, Row.cell_at h 4 rfl⟩
                      obtain ⟨spt, cpt0, cpt1, cpt2, cpt3, cpt4⟩ := Fpt _ rpt
                      refine (ML6 _ (he.below hB)).mono ?_
                      rintro e W15 ⟨rfl, h1⟩
                      clear sh ch0 ch1 ch2
                      clear sab cab0 cab1 fab0 fab1
                      clear sbe cbe0 cbe1 fbe0 fbe1
                      clear sg cg0 cg1 cg2 cg3 cg4
                      clear spt cpt0 cpt1 cpt2 cpt3 cpt4
                      replace hB := hB.trans (h1.mono hB.size)
                      replace rh := Row.below rh h1
                      replace rab := Row.below rab h1
                      replace rbe := Row.below rbe h1
                      replace rg := Row.below rg h1
                      replace rpt := Row.below rpt h1
                      replace hp := PAt.below hp h1
                      clear h1
                      obtain ⟨sh, ch0, ch1, ch2⟩ := Fh _ rh
                      obtain ⟨sab, cab0, cab1, fab0, fab1⟩ := Fab _ rab
                      obtain ⟨sbe, cbe0, cbe1, fbe0, fbe1⟩ := Fbe _ rbe
                      obtain ⟨sg, cg0, cg1, cg2, cg3, cg4⟩ := Fg _ rg
                      obtain ⟨spt, cpt0, cpt1, cpt2, cpt3, cpt4⟩ := Fpt _ rpt
                      go_wp2_with fail
                      have dab_la : pab < W15.heap.size := by omega
                      have dbe_la : pbe < W15.heap.size := by omega
                      have sB := hB.size
                      refine world_cut (fun X => Below w.heap.size w X ∧ Row X W3.heap.size (.cells #[.string (S r.num), .string (S (r.den : Int)), .slice (some ⟨g, 0, none⟩) m c] 49) ∧ Row X pab (.cells #[.string (S ab.num), .string (S (ab.den : Int))] 26) ∧ Row X pbe (.cells #[.string (S be.num), .string (S (be.den : Int))] 26) ∧ Row X g (.cells cur 53) ∧ Row X wr.heap.size (.cells #[.int .i64 (q.t : Int), .string (S q.iv.lo.num), .string (S (q.iv.lo.den : Int)), .string (S q.iv.hi.num), .string (S (q.iv.hi.den : Int))] 53) ∧ Row X W15.heap.size (.cells #[.string (S x1.num), .string (S (x1.den : Int))] 26) ∧ PAt X (some ⟨g, 0, none⟩) l) ⟨BW, RWk, RWk, RWk, RWk, RWk, RWk, (by first | exact PAt.below hp BW)⟩ ?_
                      clear rh
                      clear sh ch0 ch1 ch2
                      clear rab
                      clear sab cab0 cab1 fab0 fab1
                      clear rbe
                      clear sbe cbe0 cbe1 fbe0 fbe1
                      clear rg
                      clear sg cg0 cg1 cg2 cg3 cg4
                      clear rpt
                      clear spt cpt0 cpt1 cpt2 cpt3 cpt4
                      clear hB sB hp
                      rintro V16 ⟨hB, rh, rab, rbe, rg, rpt, rla, hp⟩
                      obtain ⟨sh, ch0, ch1, ch2⟩ := Fh _ rh
                      obtain ⟨sab, cab0, cab1, fab0, fab1⟩ := Fab _ rab
                      obtain ⟨sbe, cbe0, cbe1, fbe0, fbe1⟩ := Fbe _ rbe
                      obtain ⟨sg, cg0, cg1, cg2, cg3, cg4⟩ := Fg _ rg
                      obtain ⟨spt, cpt0, cpt1, cpt2, cpt3, cpt4⟩ := Fpt _ rpt
                      have Fla : ∀ X, Row X W15.heap.size (.cells #[.string (S x1.num), .string (S (x1.den : Int))] 26) → (W15.heap.size < X.heap.size ∧ X.cell? ⟨W15.heap.size, 0, none⟩ = some (.string (S x1.num)) ∧ X.cell? ⟨W15.heap.size, 1, none⟩ = some (.string (S (x1.den : Int)))) := fun X h => ⟨h.1, Row.cell_at h 0 rfl, Row.cell_at h 1 rfl⟩
                      obtain ⟨sla, cla0, cla1⟩ := Fla _ rla
                      refine (ML7 _ (he.below hB)).mono ?_
                      rintro e W17 ⟨rfl, h1⟩
                      clear sh ch0 ch1 ch2
                      clear sab cab0 cab1 fab0 fab1
                      clear sbe cbe0 cbe1 fbe0 fbe1
                      clear sg cg0 cg1 cg2 cg3 cg4
                      clear spt cpt0 cpt1 cpt2 cpt3 cpt4
                      clear sla cla0 cla1
                      replace hB := hB.trans (h1.mono hB.size)
                      replace rh := Row.below rh h1
                      replace rab := Row.below rab h1
                      replace rbe := Row.below rbe h1
                      replace rg := Row.below rg h1
                      replace rpt := Row.below rpt h1
                      replace rla := Row.below rla h1
                      replace hp := PAt.below hp h1
                      clear h1
                      obtain ⟨sh, ch0, ch1, ch2⟩ := Fh _ rh
                      obtain ⟨sab, cab0, cab1, fab0, fab1⟩ := Fab _ rab
                      obtain ⟨sbe, cbe0, cbe1, fbe0, fbe1⟩ := Fbe _ rbe
                      obtain ⟨sg, cg0, cg1, cg2, cg3, cg4⟩ := Fg _ rg
                      obtain ⟨spt, cpt0, cpt1, cpt2, cpt3, cpt4⟩ := Fpt _ rpt
                      obtain ⟨sla, cla0, cla1⟩ := Fla _ rla
                      go_upto_region 59 with fail
                      have dab_lb : pab < W17.heap.size := by omega
                      have dbe_lb : pbe < W17.heap.size := by omega
                      have sB := hB.size
                      refine wp_cut (fun X => Below w.heap.size w X ∧ Row X W3.heap.size (.cells #[.string (S r.num), .string (S (r.den : Int)), .slice (some ⟨g, 0, none⟩) m c] 49) ∧ Row X pab (.cells #[.string (S ab.num), .string (S (ab.den : Int))] 26) ∧ Row X pbe (.cells #[.string (S be.num), .string (S (be.den : Int))] 26) ∧ Row X g (.cells cur 53) ∧ Row X wr.heap.size (.cells #[.int .i64 (q.t : Int), .string (S q.iv.lo.num), .string (S (q.iv.lo.den : Int)), .string (S q.iv.hi.num), .string (S (q.iv.hi.den : Int))] 53) ∧ Row X W15.heap.size (.cells #[.string (S x1.num), .string (S (x1.den : Int))] 26) ∧ Row X W17.heap.size (.cells #[.string (S x2.num), .string (S (x2.den : Int))] 26) ∧ PAt X (some ⟨g, 0, none⟩) l) ⟨BW, RWk, RWk, RWk, RWk, RWk, RWk, RWk, (by first | exact PAt.below hp BW)⟩ ?_
                      clear rh
                      clear sh ch0 ch1 ch2
                      clear rab
                      clear sab cab0 cab1 fab0 fab1
                      clear rbe
                      clear sbe cbe0 cbe1 fbe0 fbe1
                      clear rg
                      clear sg cg0 cg1 cg2 cg3 cg4
                      clear rpt
                      clear spt cpt0 cpt1 cpt2 cpt3 cpt4
                      clear rla
                      clear sla cla0 cla1
                      clear hB sB hp
                      rintro V18 ⟨hB, rh, rab, rbe, rg, rpt, rla, rlb, hp⟩
                      obtain ⟨sh, ch0, ch1, ch2⟩ := Fh _ rh
                      obtain ⟨sab, cab0, cab1, fab0, fab1⟩ := Fab _ rab
                      obtain ⟨sbe, cbe0, cbe1, fbe0, fbe1⟩ := Fbe _ rbe
                      obtain ⟨sg, cg0, cg1, cg2, cg3, cg4⟩ := Fg _ rg
                      obtain ⟨spt, cpt0, cpt1, cpt2, cpt3, cpt4⟩ := Fpt _ rpt
                      obtain ⟨sla, cla0, cla1⟩ := Fla _ rla
                      have Flb : ∀ X, Row X W17.heap.size (.cells #[.string (S x2.num), .string (S (x2.den : Int))] 26) → (W17.heap.size < X.heap.size ∧ X.cell? ⟨W17.heap.size, 0, none⟩ = some (.string (S x2.num)) ∧ X.cell? ⟨W17.heap.size, 1, none⟩ = some (.string (S (x2.den : Int)))) := fun X h => ⟨h.1, Row.cell_at h 0 rfl, Row.cell_at h 1 rfl⟩
                      obtain ⟨slb, clb0, clb1⟩ := Flb _ rlb
                      cases bo
                      · cases bu
                        · go_wp2_with fail
                          refine (MC1 _ (he.below hB)).mono ?_
                          rintro e W19 ⟨rfl, h1⟩
                          clear sh ch0 ch1 ch2
                          clear sab cab0 cab1 fab0 fab1
                          clear sbe cbe0 cbe1 fbe0 fbe1
                          clear sg cg0 cg1 cg2 cg3 cg4
                          clear spt cpt0 cpt1 cpt2 cpt3 cpt4
                          clear sla cla0 cla1
                          clear slb clb0 clb1
                          replace hB := hB.trans (h1.mono hB.size)
                          replace rh := Row.below rh h1
                          replace rab := Row.below rab h1
                          replace rbe := Row.below rbe h1
                          replace rg := Row.below rg h1
                          replace rpt := Row.below rpt h1
                          replace rla := Row.below rla h1
                          replace rlb := Row.below rlb h1
                          replace hp := PAt.below hp h1
                          clear h1
                          obtain ⟨sh, ch0, ch1, ch2⟩ := Fh _ rh
                          obtain ⟨sab, cab0, cab1, fab0, fab1⟩ := Fab _ rab
                          obtain ⟨sbe, cbe0, cbe1, fbe0, fbe1⟩ := Fbe _ rbe
                          obtain ⟨sg, cg0, cg1, cg2, cg3, cg4⟩ := Fg _ rg
                          obtain ⟨spt, cpt0, cpt1, cpt2, cpt3, cpt4⟩ := Fpt _ rpt
                          obtain ⟨sla, cla0, cla1⟩ := Fla _ rla
                          obtain ⟨slb, clb0, clb1⟩ := Flb _ rlb
                          go_wp2_with fail
                          refine (MC2 _ (he.below hB)).mono ?_
                          rintro e W20 ⟨rfl, h1⟩
                          clear sh ch0 ch1 ch2
                          clear sab cab0 cab1 fab0 fab1
                          clear sbe cbe0 cbe1 fbe0 fbe1
                          clear sg cg0 cg1 cg2 cg3 cg4
                          clear spt cpt0 cpt1 cpt2 cpt3 cpt4
                          clear sla cla0 cla1
                          clear slb clb0 clb1
                          replace hB := hB.trans (h1.mono hB.size)
                          replace rh := Row.below rh h1
                          replace rab := Row.below rab h1
                          replace rbe := Row.below rbe h1
                          replace rg := Row.below rg h1
                          replace rpt := Row.below rpt h1
                          replace rla := Row.below rla h1
                          replace rlb := Row.below rlb h1
                          replace hp := PAt.below hp h1
                          clear h1
                          obtain ⟨sh, ch0, ch1, ch2⟩ := Fh _ rh
                          obtain ⟨sab, cab0, cab1, fab0, fab1⟩ := Fab _ rab
                          obtain ⟨sbe, cbe0, cbe1, fbe0, fbe1⟩ := Fbe _ rbe
                          obtain ⟨sg, cg0, cg1, cg2, cg3, cg4⟩ := Fg _ rg
                          obtain ⟨spt, cpt0, cpt1, cpt2, cpt3, cpt4⟩ := Fpt _ rpt
                          obtain ⟨sla, cla0, cla1⟩ := Fla _ rla
                          obtain ⟨slb, clb0, clb1⟩ := Flb _ rlb
                          go_wp2
                          go_roundw
                          case rel => exact ⟨j + 1, by go_num, by omega, by rw [HEO.out]; first | rfl | simp, by rw [HEU.out]; first | rfl | simp, (by first | exact PAt.below hp BW), BW, RWh, RWh, RWh⟩
                          case measure => simp [intOf]; omega
                        · go_wp2_with fail
                          refine (MC1 _ (he.below hB)).mono ?_
                          rintro e W19 ⟨rfl, h1⟩
                          clear sh ch0 ch1 ch2
                          clear sab cab0 cab1 fab0 fab1
                          clear sbe cbe0 cbe1 fbe0 fbe1
                          clear sg cg0 cg1 cg2 cg3 cg4
                          clear spt cpt0 cpt1 cpt2 cpt3 cpt4
                          clear sla cla0 cla1
                          clear slb clb0 clb1
                          replace hB := hB.trans (h1.mono hB.size)
                          replace rh := Row.below rh h1
                          replace rab := Row.below rab h1
                          replace rbe := Row.below rbe h1
                          replace rg := Row.below rg h1
                          replace rpt := Row.below rpt h1
                          replace rla := Row.below rla h1
                          replace rlb := Row.below rlb h1
                          replace hp := PAt.below hp h1
                          clear h1
                          obtain ⟨sh, ch0, ch1, ch2⟩ := Fh _ rh
                          obtain ⟨sab, cab0, cab1, fab0, fab1⟩ := Fab _ rab
                          obtain ⟨sbe, cbe0, cbe1, fbe0, fbe1⟩ := Fbe _ rbe
                          obtain ⟨sg, cg0, cg1, cg2, cg3, cg4⟩ := Fg _ rg
                          obtain ⟨spt, cpt0, cpt1, cpt2, cpt3, cpt4⟩ := Fpt _ rpt
                          obtain ⟨sla, cla0, cla1⟩ := Fla _ rla
                          obtain ⟨slb, clb0, clb1⟩ := Flb _ rlb
                          go_wp2
                          go_roundw
                          case rel => exact ⟨j + 1, by go_num, by omega, by rw [HEO.out]; first | rfl | simp, by rw [HEU.out]; first | rfl | simp, (by first | exact PAt.below hp BW), BW, RWh, RWh, RWh⟩
                          case measure => simp [intOf]; omega
                      · cases bu
                        · go_wp2_with fail
                          refine (MC2 _ (he.below hB)).mono ?_
                          rintro e W19 ⟨rfl, h1⟩
                          clear sh ch0 ch1 ch2
                          clear sab cab0 cab1 fab0 fab1
                          clear sbe cbe0 cbe1 fbe0 fbe1
                          clear sg cg0 cg1 cg2 cg3 cg4
                          clear spt cpt0 cpt1 cpt2 cpt3 cpt4
                          clear sla cla0 cla1
                          clear slb clb0 clb1
                          replace hB := hB.trans (h1.mono hB.size)
                          replace rh := Row.below rh h1
                          replace rab := Row.below rab h1
                          replace rbe := Row.below rbe h1
                          replace rg := Row.below rg h1
                          replace rpt := Row.below rpt h1
                          replace rla := Row.below rla h1
                          replace rlb := Row.below rlb h1
                          replace hp := PAt.below hp h1
                          clear h1
                          obtain ⟨sh, ch0, ch1, ch2⟩ := Fh _ rh
                          obtain ⟨sab, cab0, cab1, fab0, fab1⟩ := Fab _ rab
                          obtain ⟨sbe, cbe0, cbe1, fbe0, fbe1⟩ := Fbe _ rbe
                          obtain ⟨sg, cg0, cg1, cg2, cg3, cg4⟩ := Fg _ rg
                          obtain ⟨spt, cpt0, cpt1, cpt2, cpt3, cpt4⟩ := Fpt _ rpt
                          obtain ⟨sla, cla0, cla1⟩ := Fla _ rla
                          obtain ⟨slb, clb0, clb1⟩ := Flb _ rlb
                          go_wp2
                          go_roundw
                          case rel => exact ⟨j + 1, by go_num, by omega, by rw [HEO.out]; first | rfl | simp, by rw [HEU.out]; first | rfl | simp, (by first | exact PAt.below hp BW), BW, RWh, RWh, RWh⟩
                          case measure => simp [intOf]; omega
                        · go_wp2
                          go_roundw
                          case rel => exact ⟨j + 1, by go_num, by omega, by rw [HEO.out]; first | rfl | simp, by rw [HEU.out]; first | rfl | simp, (by first | exact PAt.below hp BW), BW, RWh, RWh, RWh⟩
                          case measure => simp [intOf]; omega
                    · obtain rfl : m = j := by omega
                      simp only [HOV.out, HUN.out]
                      obtain ⟨sh, ch0, ch1, ch2⟩ := Fh _ rh
                      obtain ⟨sab, cab0, cab1, fab0, fab1⟩ := Fab _ rab
                      obtain ⟨sbe, cbe0, cbe1, fbe0, fbe1⟩ := Fbe _ rbe
                      have sB := hB.size
                      go_wp2
                      go_ret
                      exact ⟨rfl, BW⟩
    · have DOFF := fun W p c (hp : PAt W p l) (H : Env W) => dat_bad hmd.ok hfr ht3 p m c HM0.out hm1 W hp H
      have MCN := fun W p c (hp : PAt W p l) (H : Env W) => dcons_n hmd.ok p m c HM0.out W hp H
      unfold AtErr at DOFF
      have HFR := Lib.hid hfr
      clear hfr
      have hmz : ¬ ((m : Int) = 0) := by omega
      go_wp2_with fail
      refine (DOFF _ _ _ hp (he.below hB)).mono ?_
      rintro e W6 ⟨rfl, h1⟩
      clear sh ch0 ch1 ch2
      replace hB := hB.trans (h1.mono hB.size)
      replace rh := Row.below rh h1
      replace hp := PAt.below hp h1
      clear h1
      obtain ⟨sh, ch0, ch1, ch2⟩ := Fh _ rh
      go_wp2_with fail
      have sB := hB.size
      refine world_cut (fun X => Below w.heap.size w X ∧ Row X W3.heap.size (.cells #[.string (S r.num), .string (S (r.den : Int)), .slice p m c] 49) ∧ Row X W6.heap.size (.cells #[.string ⟨#[]⟩, .string ⟨#[]⟩, .string ⟨#[]⟩, .string ⟨#[]⟩] 29) ∧ PAt X p l) ⟨BW, RWk, RWk, (by first | with_reducible exact pat_set2 hp rbest NER | with_reducible exact pat_set2 hp rlo NER | exact PAt.below hp BW)⟩ ?_
      clear rh
      clear sh ch0 ch1 ch2
      clear hB sB hp
      rintro V7 ⟨hB, rh, ra, hp⟩
      obtain ⟨sh, ch0, ch1, ch2⟩ := Fh _ rh
      have Fa : ∀ X, Row X W6.heap.size (.cells #[.string ⟨#[]⟩, .string ⟨#[]⟩, .string ⟨#[]⟩, .string ⟨#[]⟩] 29) → (W6.heap.size < X.heap.size ∧ X.cell? ⟨W6.heap.size, 0, none⟩ = some (.string ⟨#[]⟩) ∧ X.cell? ⟨W6.heap.size, 1, none⟩ = some (.string ⟨#[]⟩) ∧ X.cell? ⟨W6.heap.size, 2, none⟩ = some (.string ⟨#[]⟩) ∧ X.cell? ⟨W6.heap.size, 3, none⟩ = some (.string ⟨#[]⟩)) := fun X h => ⟨h.1, Row.cell_at h 0 rfl, Row.cell_at h 1 rfl, Row.cell_at h 2 rfl, Row.cell_at h 3 rfl⟩
      obtain ⟨sa, ca0, ca1, ca2, ca3⟩ := Fa _ ra
      refine (MCN _ _ _ hp (he.below hB)).mono ?_
      rintro e W8 ⟨p5, nc, c5, hn, rfl, h1⟩
      clear sh ch0 ch1 ch2
      clear sa ca0 ca1 ca2 ca3
      replace hB := hB.trans (h1.mono hB.size)
      replace rh := Row.below rh h1
      replace ra := Row.below ra h1
      replace hp := PAt.below hp h1
      clear h1
      obtain ⟨sh, ch0, ch1, ch2⟩ := Fh _ rh
      obtain ⟨sa, ca0, ca1, ca2, ca3⟩ := Fa _ ra
      have hnc : 0 < (nc : Int) := (by have : ¬ nc = 0 := (fun h => HFR.out (hn.1 h)); omega); clear hn
      have sB := hB.size
      go_wp2
      go_ret
      exact ⟨by first | rfl | (simp; omega), BW⟩
end Go.Proofs.YtngohpgkceedeaaGreatDoor
