/-
  DriftNarrower: the walk.
-/
import Derived.Test.YtngohpgkceedeaaGreatDoorKDArgs
set_option linter.unusedSimpArgs false
set_option linter.unusedVariables false
namespace Go.Proofs.YtngohpgkceedeaaGreatDoor
open Go Go.RowKit Go.Lib Go.Shelf
attribute [local go_sem] normalQ

/-- A further point, that integers determine. -/
def narPt (y0 y1 y2 y3 : Int) : Pt := ⟨(pk y0 100).toNat, ⟨Rat.divInt (pk y1 20) (1 + pk y3 3), Rat.divInt (pk y1 20 + pk y2 20) (1 + pk y3 3)⟩⟩
theorem narPt_ok (y0 y1 y2 y3 : Int) : (narPt y0 y1 y2 y3).t ≤ 100 ∧ (narPt y0 y1 y2 y3).iv.Ok ∧ IDig 2 (narPt y0 y1 y2 y3).iv := by
  have a1 := pk_nonneg y0 (n := 100) (by decide); have a2 := pk_lt y0 (n := 100) (by decide); have b1 := pk_nonneg y1 (n := 20) (by decide); have b2 := pk_lt y1 (n := 20) (by decide)
  have c1 := pk_nonneg y2 (n := 20) (by decide); have c2 := pk_lt y2 (n := 20) (by decide); have d1 := pk_nonneg y3 (n := 3) (by decide); have d2 := pk_lt y3 (n := 3) (by decide)
  refine ⟨?_, ?_, ?_, ?_⟩
  · show (pk y0 100).toNat ≤ 100; omega
  · exact divInt_mn (by omega) (by omega)
  · exact QDig.ofInt (by omega) (by unfold Dig; omega) (by unfold Dig; omega)
  · exact QDig.ofInt (by omega) (by unfold Dig; omega) (by unfold Dig; omega)
/-- What is known of the three histories: as made, with a further point, with a greater rate. -/
structure NarOk (r s : Rat) (l m : List Pt) : Prop where
  ok : Hist.Ok ⟨r, l⟩
  okI : Hist.Ok ⟨r, m⟩
  okS : Hist.Ok ⟨s, l⟩
  rs : r ≤ s
  r5 : QDig 5 r
  s5 : QDig 5 s
  ivs : ∀ p, p ∈ l → IDig 2 p.iv
  ivm : ∀ p, p ∈ m → IDig 2 p.iv
  sub : ∀ p, p ∈ l → p ∈ m
  ne : m ≠ []
theorem nar_ok {r : Rat} {l : List Pt} {q : Pt} {k : Int} (h : HMade ⟨r, l⟩) (hq : q.t ≤ 100 ∧ q.iv.Ok ∧ IDig 2 q.iv) (h0 : 0 ≤ k) (h1 : k < 5) : NarOk r (r + Rat.divInt k 3) l (ins l q) where
  ok := h.ok
  okI := ins_ok h.ok (by have := h.few; omega) (by have := hq.1; omega) ⟨hq.2.1, hq.2.2.mono (by omega)⟩
  okS := ok_rate h.ok (by have := h.ok.rate; have := divInt_nn (n := k) (d := 3) (by decide) h0; simp only at *; grind) ((QDig.add (j := 2) (k := 2) h.rdig (QDig.ofInt (by decide) (by unfold Dig; omega) (by unfold Dig; omega))).mono (by omega))
  rs := by have := divInt_nn (n := k) (d := 3) (by decide) h0; grind
  r5 := h.rdig.mono (by omega)
  s5 := (QDig.add (j := 2) (k := 2) h.rdig (QDig.ofInt (by decide) (by unfold Dig; omega) (by unfold Dig; omega)))
  ivs := h.ivs
  ivm := fun p hp => by
    rcases mem_ins.1 hp with rfl | hp
    · exact hq.2.2
    · exact h.ivs p hp
  sub := fun p hp => mem_ins.2 (.inr hp)
  ne := fun e => by have := ins_length l q; rw [e] at this; simp at this
theorem NarOk.ac {r s : Rat} {l m : List Pt} {t : Nat} {a c : Iv} (h : NarOk r s l m) (hf : Free ⟨r, l⟩) (ht : t ≤ 1000000) (ka : Knows ⟨r, l⟩ t a) (kc : Knows ⟨s, l⟩ t c) : IDig 200 a ∧ IDig 200 c ∧ a.Ok ∧ a.Sub c :=
  ⟨(known_dig h.r5 h.ivs ht h.ok.times ka).mono (by omega), (known_dig h.s5 h.ivs ht h.ok.times kc).mono (by omega), ka.ok h.ok.rate hf, Knows.faster h.rs ka kc⟩
theorem NarOk.ba {r s : Rat} {l m : List Pt} {t : Nat} {a b : Iv} (h : NarOk r s l m) (hf : Free ⟨r, m⟩) (ht : t ≤ 1000000) (ka : Knows ⟨r, l⟩ t a) (kb : Knows ⟨r, m⟩ t b) : IDig 200 b ∧ IDig 200 a ∧ b.Ok ∧ b.Sub a :=
  ⟨(known_dig h.r5 h.ivm ht h.okI.times kb).mono (by omega), (known_dig h.r5 h.ivs ht h.ok.times ka).mono (by omega), kb.ok h.okI.rate hf, Knows.more h.sub ka kb⟩
theorem NarOk.du {r s : Rat} {l m : List Pt} {u : Pt} {d : Iv} (h : NarOk r s l m) (hf : Free ⟨r, l⟩) (hu : u ∈ l) (kd : Knows ⟨r, l⟩ u.t d) : IDig 200 d ∧ IDig 200 u.iv ∧ d.Ok ∧ d.Sub u.iv :=
  ⟨(known_dig h.r5 h.ivs (h.ok.times u hu) h.ok.times kd).mono (by omega), (h.ivs u hu).mono (by omega), kd.ok h.ok.rate hf, Knows.own (h := ⟨r, l⟩) hu kd⟩
theorem ewithin4 {a b : Iv} (h : IDig 200 a ∧ IDig 200 b ∧ a.Ok ∧ a.Sub b) (w : World) (he : Env w) : Calls Tryz.prog 17 #[I a, I b] w (BoolOk true w) := ewithin a b h.1 h.2.1 h.2.2.1 h.2.2.2 w he
set_option maxRecDepth 100000 in
set_option maxHeartbeats 16000000 in
theorem driftNarrower_any (r0 r1 : Int) (px : Option Addr) (nx cx : Nat) (fx : Nat → Nat → Int) (y0 y1 y2 y3 fa ti : Int) (hr : IsInt r0 ∧ IsInt r1) (w : World) (hx : nx ≤ 9223372036854775807 ∧ XK 4 w px nx fx ∧ ∀ i j, i < nx → j < 4 → IsInt (fx i j)) (hy : IsInt y0 ∧ IsInt y1 ∧ IsInt y2 ∧ IsInt y3) (hfa : IsInt fa) (hti : IsInt ti) (he : Env w) :
    Calls Tryz.prog 10 #[.agg #[.int .i64 r0, .int .i64 r1], .slice px nx cx, .agg #[.int .i64 y0, .int .i64 y1, .int .i64 y2, .int .i64 y3], .int .i64 fa, .int .i64 ti] w (BoolOk true w) := by
  have hB : Below w.heap.size w w := Below.refl _ _
  have NER : (26 : TypeId) ≠ 53 := by decide
  have NEH : (49 : TypeId) ≠ 53 := by decide
  have NEI : (29 : TypeId) ≠ 53 := by decide
  have MS := fun W (H : Env W) => sane12 W H
  obtain ⟨hnx, hX, hfx⟩ := hx
  have HXX := Lib.hid hX
  have TT := fun W => pickL12 ti 130 hti (by decide) W
  have t1 := pk_nonneg ti (n := 130) (by decide)
  have t2 := pk_lt ti (n := 130) (by decide)
  obtain ⟨t, ht⟩ : ∃ t : Nat, pk ti 130 = (t : Int) := ⟨(pk ti 130).toNat, by omega⟩
  rw [ht] at TT
  have ht3 : t ≤ 1000000 := by omega
  clear t1 t2 ht hti
  have Tq := fun W => pickL12 y0 100 hy.1 (by decide) W
  have Kq1 := fun W => pickL12 y1 20 hy.2.1 (by decide) W
  have Kq2 := fun W => pickL12 y2 20 hy.2.2.1 (by decide) W
  have Kq3 := fun W => pickL12 y3 3 hy.2.2.2 (by decide) W
  have a1 := pk_nonneg y0 (n := 100) (by decide)
  have b1 := pk_nonneg y1 (n := 20) (by decide)
  have b2 := pk_lt y1 (n := 20) (by decide)
  have c1 := pk_nonneg y2 (n := 20) (by decide)
  have c2 := pk_lt y2 (n := 20) (by decide)
  have d1 := pk_nonneg y3 (n := 3) (by decide)
  have d2 := pk_lt y3 (n := 3) (by decide)
  have MIq := fun W (H : Env W) => linterval (n := pk y1 20) (m := pk y1 20 + pk y2 20) (d := 1 + pk y3 3) ⟨by omega, by omega⟩ ⟨by omega, by omega⟩ ⟨by omega, by omega⟩ (by omega) W H
  obtain ⟨q, eq⟩ : ∃ q, q = narPt y0 y1 y2 y3 := ⟨_, rfl⟩
  have oq := narPt_ok y0 y1 y2 y3
  rw [← eq] at oq
  have fq : pk y0 100 = (q.t : Int) := by rw [eq]; show pk y0 100 = (((pk y0 100).toNat : Nat) : Int); omega
  rw [fq] at Tq
  have gq : (⟨Rat.divInt (pk y1 20) (1 + pk y3 3), Rat.divInt (pk y1 20 + pk y2 20) (1 + pk y3 3)⟩ : Iv) = q.iv := by rw [eq]; rfl
  rw [gq] at MIq
  unfold I at MIq
  have hw : IntKind.i64.wrap (1 + pk y3 3) = 1 + pk y3 3 := by rw [IntKind.wrap_i64]; omega
  have hv : IntKind.i64.wrap (pk y1 20 + pk y2 20) = pk y1 20 + pk y2 20 := by rw [IntKind.wrap_i64]; omega
  generalize pk y1 20 = k1 at *
  generalize pk y2 20 = k2 at *
  generalize pk y3 3 = k3 at *
  clear eq fq gq a1 b1 b2 c1 c2 d1 d2 hy
  have KF := fun W => pickL12 fa 5 hfa (by decide) W
  have f1 := pk_nonneg fa (n := 5) (by decide)
  have f2 := pk_lt fa (n := 5) (by decide)
  generalize pk fa 5 = kf at *
  have MO := fun W (H : Env W) => lof (n := kf) (d := 3) ⟨by omega, by omega⟩ (by decide) (by decide) W H
  have hmd := (made_ok r0 r1 fx (min nx 8) (by omega)).1
  obtain ⟨r, hr0⟩ : ∃ r, madeRate r0 r1 = r := ⟨_, rfl⟩
  obtain ⟨l, hl0⟩ : ∃ l, madeL fx (min nx 8) = l := ⟨_, rfl⟩
  obtain ⟨m, hm0⟩ : ∃ m, l.length = m := ⟨_, rfl⟩
  rw [hr0, hl0] at hmd
  have MM := fun W (h : X4 W px nx fx) => made_n (cx := cx) hr.1 hr.2 hfx hnx hr0 hl0 hm0 W h
  have MA := fun W (H : Env W) => qadd (j := 2) (k := 2) hmd.rdig (QDig.ofInt (n := kf) (d := 3) (k := 2) (by decide) (by unfold Dig; omega) (by unfold Dig; omega)) (by omega) W H
  have NK := nar_ok hmd oq f1 f2
  generalize Rat.divInt kf 3 = q3 at *
  generalize r + q3 = s at *
  have MD := fun W p c (hp : PAt W p l) (H : Env W) => dadd_say (rfl : ins l q = _) NK.ok NK.okI p m c hm0 W hp H
  generalize ins l q = lq at *
  have DOFF := fun hx W p c (hp : PAt W p l) (H : Env W) => dat_off NK.ok (t := t) ht3 p m c hm0 hx W hp H
  have hm8 : m ≤ 8 := by rw [← hm0]; exact hmd.few
  have HM0 := Lib.hid hm0
  clear hr0 hl0 hm0 hmd oq f1 f2 hX hfx hr hfa hnx
  unfold BoolOk at MS
  unfold QOk at MA
  unfold AtErr at DOFF
  unfold Q at *
  go_enter Tryz.func10, Tryz.ntmps10
  go_wp2_with fail
  have sB := hB.size
  refine world_cut (fun X => Below w.heap.size w X ∧ Row X w.heap.size (.cells #[.int .i64 r0, .int .i64 r1] 50) ∧ Row X (w.heap.size + 1) (.cells #[.int .i64 y0, .int .i64 y1, .int .i64 y2, .int .i64 y3] 22)) ⟨BW, RWk, RWk⟩ ?_
  clear hB sB
  rintro V1 ⟨hB, rrt, rbp⟩
  have Frt : ∀ X, Row X w.heap.size (.cells #[.int .i64 r0, .int .i64 r1] 50) → (w.heap.size < X.heap.size ∧ X.cell? ⟨w.heap.size, 0, none⟩ = some (.int .i64 r0) ∧ X.cell? ⟨w.heap.size, 1, none⟩ = some (.int .i64 r1)) := fun X h => ⟨h.1, Row.cell_at h 0 rfl, Row.cell_at h 1 rfl⟩
  obtain ⟨srt, crt0, crt1⟩ := Frt _ rrt
  have Fbp : ∀ X, Row X (w.heap.size + 1) (.cells #[.int .i64 y0, .int .i64 y1, .int .i64 y2, .int .i64 y3] 22) → (w.heap.size + 1 < X.heap.size ∧ X.cell? ⟨w.heap.size + 1, 0, none⟩ = some (.int .i64 y0) ∧ X.cell? ⟨w.heap.size + 1, 1, none⟩ = some (.int .i64 y1) ∧ X.cell? ⟨w.heap.size + 1, 2, none⟩ = some (.int .i64 y2) ∧ X.cell? ⟨w.heap.size + 1, 3, none⟩ = some (.int .i64 y3)) := fun X h => ⟨h.1, Row.cell_at h 0 rfl, Row.cell_at h 1 rfl, Row.cell_at h 2 rfl, Row.cell_at h 3 rfl⟩
  obtain ⟨sbp, cbp0, cbp1, cbp2, cbp3⟩ := Fbp _ rbp
  refine (MS _ (he.below hB)).mono ?_
  rintro e W2 ⟨rfl, h1⟩
  clear srt crt0 crt1
  clear sbp cbp0 cbp1 cbp2 cbp3
  replace hB := hB.trans (h1.mono hB.size)
  replace rrt := Row.below rrt h1
  replace rbp := Row.below rbp h1
  clear h1
  obtain ⟨srt, crt0, crt1⟩ := Frt _ rrt
  obtain ⟨sbp, cbp0, cbp1, cbp2, cbp3⟩ := Fbp _ rbp
  go_wp2_with fail
  clear rrt
  clear srt crt0 crt1
  clear Frt
  refine (MM _ (X4.below HXX.out hB)).mono ?_
  rintro e W3 ⟨p, c, ⟨hp, hmc⟩, rfl, h1⟩
  clear sbp cbp0 cbp1 cbp2 cbp3
  replace hB := hB.trans (h1.mono hB.size)
  replace rbp := Row.below rbp h1
  clear h1
  obtain ⟨sbp, cbp0, cbp1, cbp2, cbp3⟩ := Fbp _ rbp
  go_wp2_with fail
  have sB := hB.size
  refine world_cut (fun X => Below w.heap.size w X ∧ Row X (w.heap.size + 1) (.cells #[.int .i64 y0, .int .i64 y1, .int .i64 y2, .int .i64 y3] 22) ∧ Row X W3.heap.size (.cells #[.string (S r.num), .string (S (r.den : Int)), .slice p m c] 49) ∧ PAt X p l) ⟨BW, RWk, RWk, (by first | with_reducible exact pat_set3 hp rmore NEH | with_reducible exact pat_set2 hp rsum NER | with_reducible exact pat_set2 hp rfast NEH | with_reducible exact pat_set4 hp rd NEI | exact PAt.below hp BW)⟩ ?_
  clear rbp
  clear sbp cbp0 cbp1 cbp2 cbp3
  clear hB sB hp
  rintro V4 ⟨hB, rbp, rh, hp⟩
  obtain ⟨sbp, cbp0, cbp1, cbp2, cbp3⟩ := Fbp _ rbp
  have Fh : ∀ X, Row X W3.heap.size (.cells #[.string (S r.num), .string (S (r.den : Int)), .slice p m c] 49) → (W3.heap.size < X.heap.size ∧ X.cell? ⟨W3.heap.size, 0, none⟩ = some (.string (S r.num)) ∧ X.cell? ⟨W3.heap.size, 1, none⟩ = some (.string (S (r.den : Int))) ∧ X.cell? ⟨W3.heap.size, 2, none⟩ = some (.slice p m c)) := fun X h => ⟨h.1, Row.cell_at h 0 rfl, Row.cell_at h 1 rfl, Row.cell_at h 2 rfl⟩
  obtain ⟨sh, ch0, ch1, ch2⟩ := Fh _ rh
  refine (TT _).mono ?_
  rintro e W5 ⟨rfl, h1⟩
  clear sbp cbp0 cbp1 cbp2 cbp3
  clear sh ch0 ch1 ch2
  replace hB := hB.trans (h1.mono hB.size)
  replace rbp := Row.below rbp h1
  replace rh := Row.below rh h1
  replace hp := PAt.below hp h1
  clear h1
  obtain ⟨sbp, cbp0, cbp1, cbp2, cbp3⟩ := Fbp _ rbp
  obtain ⟨sh, ch0, ch1, ch2⟩ := Fh _ rh
  by_cases hx : 0 < m ∧ Free ⟨r, l⟩
  · obtain ⟨hm1, hfr⟩ := hx
    clear DOFF
    have hne : l ≠ [] := by intro h; have := HM0.out; rw [h] at this; simp at this; omega
    obtain ⟨a, ka⟩ := exists_knows ⟨r, l⟩ t hne
    obtain ⟨cc, kc⟩ := exists_knows ⟨s, l⟩ t hne
    have DA := fun W p c (hp : PAt W p l) (H : Env W) => dat_known NK.ok hfr ka ht3 p m c HM0.out hm1 W hp H
    have DC := fun W p c (hp : PAt W p l) (H : Env W) => dat_known NK.okS (Free.rate NK.rs hfr) kc ht3 p m c HM0.out hm1 W hp H
    have WAC := fun W (H : Env W) => ewithin4 (NK.ac hfr ht3 ka kc) W H
    unfold BoolOk I at WAC
    go_wp2_with fail
    refine (DA _ _ _ hp (he.below hB)).mono ?_
    rintro e W6 ⟨rfl, h1⟩
    clear sbp cbp0 cbp1 cbp2 cbp3
    clear sh ch0 ch1 ch2
    replace hB := hB.trans (h1.mono hB.size)
    replace rbp := Row.below rbp h1
    replace rh := Row.below rh h1
    replace hp := PAt.below hp h1
    clear h1
    obtain ⟨sbp, cbp0, cbp1, cbp2, cbp3⟩ := Fbp _ rbp
    obtain ⟨sh, ch0, ch1, ch2⟩ := Fh _ rh
    go_wp2_with fail
    have sB := hB.size
    refine wp_cut (fun X => Below w.heap.size w X ∧ Row X (w.heap.size + 1) (.cells #[.int .i64 y0, .int .i64 y1, .int .i64 y2, .int .i64 y3] 22) ∧ Row X W3.heap.size (.cells #[.string (S r.num), .string (S (r.den : Int)), .slice p m c] 49) ∧ Row X W6.heap.size (.cells #[.string (S a.lo.num), .string (S (a.lo.den : Int)), .string (S a.hi.num), .string (S (a.hi.den : Int))] 29) ∧ PAt X p l) ⟨BW, RWk, RWk, RWk, (by first | with_reducible exact pat_set3 hp rmore NEH | with_reducible exact pat_set2 hp rsum NER | with_reducible exact pat_set2 hp rfast NEH | with_reducible exact pat_set4 hp rd NEI | exact PAt.below hp BW)⟩ ?_
    clear rbp
    clear sbp cbp0 cbp1 cbp2 cbp3
    clear rh
    clear sh ch0 ch1 ch2
    clear hB sB hp
    rintro V7 ⟨hB, rbp, rh, ra, hp⟩
    obtain ⟨sbp, cbp0, cbp1, cbp2, cbp3⟩ := Fbp _ rbp
    obtain ⟨sh, ch0, ch1, ch2⟩ := Fh _ rh
    have Fa : ∀ X, Row X W6.heap.size (.cells #[.string (S a.lo.num), .string (S (a.lo.den : Int)), .string (S a.hi.num), .string (S (a.hi.den : Int))] 29) → (W6.heap.size < X.heap.size ∧ X.cell? ⟨W6.heap.size, 0, none⟩ = some (.string (S a.lo.num)) ∧ X.cell? ⟨W6.heap.size, 1, none⟩ = some (.string (S (a.lo.den : Int))) ∧ X.cell? ⟨W6.heap.size, 2, none⟩ = some (.string (S a.hi.num)) ∧ X.cell? ⟨W6.heap.size, 3, none⟩ = some (.string (S (a.hi.den : Int)))) := fun X h => ⟨h.1, Row.cell_at h 0 rfl, Row.cell_at h 1 rfl, Row.cell_at h 2 rfl, Row.cell_at h 3 rfl⟩
    obtain ⟨sa, ca0, ca1, ca2, ca3⟩ := Fa _ ra
    have dbp_more := rbp.1
    have dh_more := rh.1
    have da_more := ra.1
    have d0_more := hB.size
    refine wp_region_late 25 [23] [.val (.agg #[.string (S r.num), .string (S (r.den : Int)), .slice p m c]), .val (.pointer (some ⟨w.heap.size + 1, 0, none⟩)), .val (.int .i64 y0), .val (.int .i64 (q.t : Int)), .val (.pointer (some ⟨w.heap.size + 1, 1, none⟩)), .val (.int .i64 y1), .val (.int .i64 k1), .val (.pointer (some ⟨w.heap.size + 1, 1, none⟩)), .val (.int .i64 y1), .val (.int .i64 k1), .val (.pointer (some ⟨w.heap.size + 1, 2, none⟩)), .val (.int .i64 y2), .val (.int .i64 k2), .val (.int .i64 (k1 + k2)), .val (.pointer (some ⟨w.heap.size + 1, 3, none⟩)), .val (.int .i64 y3), .val (.int .i64 k3), .val (.int .i64 (1 + k3)), .val (.agg #[.string (S q.iv.lo.num), .string (S (q.iv.lo.den : Int)), .string (S q.iv.hi.num), .string (S (q.iv.hi.den : Int))]), .val (.agg #[.int .i64 (q.t : Int), .string (S q.iv.lo.num), .string (S (q.iv.lo.den : Int)), .string (S q.iv.hi.num), .string (S (q.iv.hi.den : Int))]), .say (SayAdd r lq), .say (SayAdd r lq), .say (SayHist r lq), .val (.int .i64 0), .say (fresh _ (.cells #[.string ⟨#[]⟩, .string ⟨#[]⟩, .slice none 0 0] 49))] [15] (by kernel_rfl) (by kernel_rfl) (by kernel_rfl) rfl ⟨SayAdd.mono _ _, ⟨SayAdd.mono _ _, ⟨SayHist.mono _ _, ⟨fresh_mono _ _, trivial⟩⟩⟩⟩ (allItems.cons (qi1 fun X h => Fh X (Row.below rh h)) (allItems.cons qi0 (allItems.cons (qi1 fun X h => Fbp X (Row.below rbp h)) (allItems.cons (qi2 fun X h => Tq X) (allItems.cons qi0 (allItems.cons (qi1 fun X h => Fbp X (Row.below rbp h)) (allItems.cons (qi2 fun X h => Kq1 X) (allItems.cons qi0 (allItems.cons (qi1 fun X h => Fbp X (Row.below rbp h)) (allItems.cons (qi2 fun X h => Kq1 X) (allItems.cons qi0 (allItems.cons (qi1 fun X h => Fbp X (Row.below rbp h)) (allItems.cons (qi2 fun X h => Kq2 X) (allItems.cons (qif hv) (allItems.cons qi0 (allItems.cons (qi1 fun X h => Fbp X (Row.below rbp h)) (allItems.cons (qi2 fun X h => Kq3 X) (allItems.cons (qif hw) (allItems.cons (qi2 fun X h => MIq X (he.below (hB.trans (h.mono hB.size)))) (allItems.cons qi0 (allItems.cons (qi3 fun X h => MD X _ _ (PAt.below hp h) (he.below (hB.trans (h.mono hB.size)))) (allItems.cons (by intro ρ X qX qc qg qf qt qd; simp [depsSay, itemSp, QItem.sp, Region.binds] at qd; simp [Region.wanted, yieldedBy, quietly, QItem.sp, execOp, go_sem, foreign, qc, qt, qf, Below.refl, qd]) (allItems.cons (by intro ρ X qX qc qg qf qt qd; simp [depsSay, itemSp, QItem.sp, Region.binds] at qd; obtain ⟨p, c, e, h1, h2⟩ := qd; simp [Region.wanted, yieldedBy, quietly, QItem.sp, execOp, go_sem, foreign, qc, qt, qf, Below.refl, e]; exact ⟨p, c, rfl, h1, h2⟩) (allItems.cons (qId (by intro ρ X qX qc qg qf qt qd; simp [depsSay, itemSp, QItem.sp, Region.binds] at qd; obtain ⟨p, c, e, h1, h2⟩ := qd; simp [Region.wanted, yieldedBy, quietly, QItem.sp, execOp, go_sem, foreign, qc, qt, qf, Below.refl, e])) (allItems.cons qia trivial))))))))))))))))))))))))) ?_
    rintro W h1
    clear sbp cbp0 cbp1 cbp2 cbp3
    clear sh ch0 ch1 ch2
    clear sa ca0 ca1 ca2 ca3
    replace hB := hB.trans (h1.mono hB.size)
    replace rbp := Row.below rbp h1
    replace rh := Row.below rh h1
    replace ra := Row.below ra h1
    replace hp := PAt.below hp h1
    clear h1
    obtain ⟨sbp, cbp0, cbp1, cbp2, cbp3⟩ := Fbp _ rbp
    obtain ⟨sh, ch0, ch1, ch2⟩ := Fh _ rh
    obtain ⟨sa, ca0, ca1, ca2, ca3⟩ := Fa _ ra
    simp only [setItems, List.setIfInBounds_toArray, List.set_cons_succ, List.set_cons_zero, List.take_succ_cons, List.take_zero, List.drop_succ_cons, List.drop_zero]
    rintro _ ⟨p1, c1, rfl, hp1, hc1⟩
    rintro _ ⟨p2, c2, rfl, hp2, hc2⟩
    rintro _ ⟨p3, c3, rfl, hp3, hc3⟩
    rintro _ ⟨pmore, rfl, hmore, rmore⟩
    replace dbp_more := Nat.lt_of_lt_of_le dbp_more hmore
    replace dh_more := Nat.lt_of_lt_of_le dh_more hmore
    replace da_more := Nat.lt_of_lt_of_le da_more hmore
    replace d0_more := Nat.le_trans d0_more hmore
    have Fmore : ∀ X, Row X pmore (.cells #[.string ⟨#[]⟩, .string ⟨#[]⟩, .slice none 0 0] 49) → (pmore < X.heap.size ∧ X.cell? ⟨pmore, 0, none⟩ = some (.string ⟨#[]⟩) ∧ X.cell? ⟨pmore, 1, none⟩ = some (.string ⟨#[]⟩) ∧ X.cell? ⟨pmore, 2, none⟩ = some (.slice none 0 0) ∧ X.frozen? ⟨pmore, 0, none⟩ = false ∧ X.frozen? ⟨pmore, 1, none⟩ = false ∧ X.frozen? ⟨pmore, 2, none⟩ = false) := fun X h => ⟨h.1, Row.cell_at h 0 rfl, Row.cell_at h 1 rfl, Row.cell_at h 2 rfl, frozen_of_row _ _ 0 _ _ h.2, frozen_of_row _ _ 1 _ _ h.2, frozen_of_row _ _ 2 _ _ h.2⟩
    obtain ⟨smore, cmore0, cmore1, cmore2, fmore0, fmore1, fmore2⟩ := Fmore _ rmore
    intro _
    go_wp2_with fail
    unfold normalQ
    clear hp1 hp2 hc1 hc2 hc3
    by_cases hq : Free ⟨r, lq⟩
    · obtain ⟨b, kb⟩ := exists_knows ⟨r, lq⟩ t NK.ne
      have DB := fun W p c (hp : PAt W p lq) (H : Env W) => dat_known NK.okI hq kb ht3 p lq.length c rfl (List.length_pos_iff.2 NK.ne) W hp H
      have WBA := fun W (H : Env W) => ewithin4 (NK.ba hq ht3 ka kb) W H
      unfold BoolOk I at WBA
      go_wp2_with fail
      clear Fbp
      have sB := hB.size
      refine world_cut (fun X => Below w.heap.size w X ∧ Row X W3.heap.size (.cells #[.string (S r.num), .string (S (r.den : Int)), .slice p m c] 49) ∧ Row X W6.heap.size (.cells #[.string (S a.lo.num), .string (S (a.lo.den : Int)), .string (S a.hi.num), .string (S (a.hi.den : Int))] 29) ∧ Row X pmore (.cells #[.string (S r.num), .string (S (r.den : Int)), .slice p3 lq.length c3] 49) ∧ PAt X p l ∧ PAt X p3 lq) ⟨BW, RWk, RWk, RWk, (by first | with_reducible exact pat_set3 hp rmore NEH | with_reducible exact pat_set2 hp rsum NER | with_reducible exact pat_set2 hp rfast NEH | with_reducible exact pat_set4 hp rd NEI | exact PAt.below hp BW), (by first | with_reducible exact pat_set3 hp3 rmore NEH | with_reducible exact pat_set2 hp3 rsum NER | with_reducible exact pat_set2 hp3 rfast NEH | with_reducible exact pat_set4 hp3 rd NEI | exact PAt.below hp3 BW)⟩ ?_
      clear rbp
      clear sbp cbp0 cbp1 cbp2 cbp3
      clear rh
      clear sh ch0 ch1 ch2
      clear ra
      clear sa ca0 ca1 ca2 ca3
      clear rmore
      clear smore cmore0 cmore1 cmore2 fmore0 fmore1 fmore2
      clear hB sB hp hp3
      rintro V8 ⟨hB, rh, ra, rmore, hp, hp3⟩
      obtain ⟨sh, ch0, ch1, ch2⟩ := Fh _ rh
      obtain ⟨sa, ca0, ca1, ca2, ca3⟩ := Fa _ ra
      clear Fmore
      have Fmore : ∀ X, Row X pmore (.cells #[.string (S r.num), .string (S (r.den : Int)), .slice p3 lq.length c3] 49) → (pmore < X.heap.size ∧ X.cell? ⟨pmore, 0, none⟩ = some (.string (S r.num)) ∧ X.cell? ⟨pmore, 1, none⟩ = some (.string (S (r.den : Int))) ∧ X.cell? ⟨pmore, 2, none⟩ = some (.slice p3 lq.length c3) ∧ X.frozen? ⟨pmore, 0, none⟩ = false ∧ X.frozen? ⟨pmore, 1, none⟩ = false ∧ X.frozen? ⟨pmore, 2, none⟩ = false) := fun X h => ⟨h.1, Row.cell_at h 0 rfl, Row.cell_at h 1 rfl, Row.cell_at h 2 rfl, frozen_of_row _ _ 0 _ _ h.2, frozen_of_row _ _ 1 _ _ h.2, frozen_of_row _ _ 2 _ _ h.2⟩
      obtain ⟨smore, cmore0, cmore1, cmore2, fmore0, fmore1, fmore2⟩ := Fmore _ rmore
      refine (DB _ _ _ hp3 (he.below hB)).mono ?_
      rintro e W9 ⟨rfl, h1⟩
      clear sh ch0 ch1 ch2
      clear sa ca0 ca1 ca2 ca3
      clear smore cmore0 cmore1 cmore2 fmore0 fmore1 fmore2
      replace hB := hB.trans (h1.mono hB.size)
      replace rh := Row.below rh h1
      replace ra := Row.below ra h1
      replace rmore := Row.below rmore h1
      replace hp := PAt.below hp h1
      replace hp3 := PAt.below hp3 h1
      clear h1
      obtain ⟨sh, ch0, ch1, ch2⟩ := Fh _ rh
      obtain ⟨sa, ca0, ca1, ca2, ca3⟩ := Fa _ ra
      obtain ⟨smore, cmore0, cmore1, cmore2, fmore0, fmore1, fmore2⟩ := Fmore _ rmore
      go_wp2_with fail
      have dmore_b : pmore < W9.heap.size := by omega
      have dh_fast : W3.heap.size < W9.heap.size + 1 := by omega
      have da_fast : W6.heap.size < W9.heap.size + 1 := by omega
      have dmore_fast : pmore < W9.heap.size + 1 := by omega
      have d0_fast : w.heap.size ≤ W9.heap.size + 1 := by have := hB.size; omega
      have sB := hB.size
      refine wp_cut (fun X => Below w.heap.size w X ∧ Row X W3.heap.size (.cells #[.string (S r.num), .string (S (r.den : Int)), .slice p m c] 49) ∧ Row X W6.heap.size (.cells #[.string (S a.lo.num), .string (S (a.lo.den : Int)), .string (S a.hi.num), .string (S (a.hi.den : Int))] 29) ∧ Row X pmore (.cells #[.string (S r.num), .string (S (r.den : Int)), .slice p3 lq.length c3] 49) ∧ Row X W9.heap.size (.cells #[.string (S b.lo.num), .string (S (b.lo.den : Int)), .string (S b.hi.num), .string (S (b.hi.den : Int))] 29) ∧ Row X (W9.heap.size + 1) (.cells #[.string (S r.num), .string (S (r.den : Int)), .slice p m c] 49) ∧ PAt X p l ∧ PAt X p3 lq) ⟨BW, RWk, RWk, RWk, RWk, RWk, (by first | with_reducible exact pat_set3 hp rmore NEH | with_reducible exact pat_set2 hp rsum NER | with_reducible exact pat_set2 hp rfast NEH | with_reducible exact pat_set4 hp rd NEI | exact PAt.below hp BW), (by first | with_reducible exact pat_set3 hp3 rmore NEH | with_reducible exact pat_set2 hp3 rsum NER | with_reducible exact pat_set2 hp3 rfast NEH | with_reducible exact pat_set4 hp3 rd NEI | exact PAt.below hp3 BW)⟩ ?_
      clear rh
      clear sh ch0 ch1 ch2
      clear ra
      clear sa ca0 ca1 ca2 ca3
      clear rmore
      clear smore cmore0 cmore1 cmore2 fmore0 fmore1 fmore2
      clear hB sB hp hp3
      rintro V10 ⟨hB, rh, ra, rmore, rb, rfast, hp, hp3⟩
      obtain ⟨sh, ch0, ch1, ch2⟩ := Fh _ rh
      obtain ⟨sa, ca0, ca1, ca2, ca3⟩ := Fa _ ra
      obtain ⟨smore, cmore0, cmore1, cmore2, fmore0, fmore1, fmore2⟩ := Fmore _ rmore
      have Fb : ∀ X, Row X W9.heap.size (.cells #[.string (S b.lo.num), .string (S (b.lo.den : Int)), .string (S b.hi.num), .string (S (b.hi.den : Int))] 29) → (W9.heap.size < X.heap.size ∧ X.cell? ⟨W9.heap.size, 0, none⟩ = some (.string (S b.lo.num)) ∧ X.cell? ⟨W9.heap.size, 1, none⟩ = some (.string (S (b.lo.den : Int))) ∧ X.cell? ⟨W9.heap.size, 2, none⟩ = some (.string (S b.hi.num)) ∧ X.cell? ⟨W9.heap.size, 3, none⟩ = some (.string (S (b.hi.den : Int)))) := fun X h => ⟨h.1, Row.cell_at h 0 rfl, Row.cell_at h 1 rfl, Row.cell_at h 2 rfl, Row.cell_at h 3 rfl⟩
      obtain ⟨sb, cb0, cb1, cb2, cb3⟩ := Fb _ rb
      have Ffast : ∀ X, Row X (W9.heap.size + 1) (.cells #[.string (S r.num), .string (S (r.den : Int)), .slice p m c] 49) → (W9.heap.size + 1 < X.heap.size ∧ X.cell? ⟨W9.heap.size + 1, 0, none⟩ = some (.string (S r.num)) ∧ X.cell? ⟨W9.heap.size + 1, 1, none⟩ = some (.string (S (r.den : Int))) ∧ X.cell? ⟨W9.heap.size + 1, 2, none⟩ = some (.slice p m c) ∧ X.frozen? ⟨W9.heap.size + 1, 0, none⟩ = false ∧ X.frozen? ⟨W9.heap.size + 1, 1, none⟩ = false ∧ X.frozen? ⟨W9.heap.size + 1, 2, none⟩ = false) := fun X h => ⟨h.1, Row.cell_at h 0 rfl, Row.cell_at h 1 rfl, Row.cell_at h 2 rfl, frozen_of_row _ _ 0 _ _ h.2, frozen_of_row _ _ 1 _ _ h.2, frozen_of_row _ _ 2 _ _ h.2⟩
      obtain ⟨sfast, cfast0, cfast1, cfast2, ffast0, ffast1, ffast2⟩ := Ffast _ rfast
      have dh_sum := rh.1
      have da_sum := ra.1
      have dmore_sum := rmore.1
      have db_sum := rb.1
      have dfast_sum := rfast.1
      have d0_sum := hB.size
      refine wp_region_late 10 [8] [.val (.pointer (some ⟨W3.heap.size, 0, none⟩)), .val (.agg #[.string (S r.num), .string (S (r.den : Int))]), .val (.int .i64 fa), .val (.int .i64 kf), .val (.agg #[.string (S q3.num), .string (S (q3.den : Int))]), .val (.tuple #[.agg #[.string (S s.num), .string (S (s.den : Int))], .int .i64 0]), .val (.tuple #[.agg #[.string (S s.num), .string (S (s.den : Int))], .int .i64 0]), .val (.agg #[.string (S s.num), .string (S (s.den : Int))]), .val (.int .i64 0), .say (fresh _ (.cells #[.string ⟨#[]⟩, .string ⟨#[]⟩] 26))] [20] (by kernel_rfl) (by kernel_rfl) (by kernel_rfl) rfl ⟨fresh_mono _ _, trivial⟩ (allItems.cons qi0 (allItems.cons (qi1 fun X h => Fh X (Row.below rh h)) (allItems.cons qi0 (allItems.cons (qi2 fun X h => KF X) (allItems.cons (qi2 fun X h => MO X (he.below (hB.trans (h.mono hB.size)))) (allItems.cons (qi2 fun X h => MA X (he.below (hB.trans (h.mono hB.size)))) (allItems.cons qi0 (allItems.cons qi0 (allItems.cons qi0 (allItems.cons qia trivial)))))))))) ?_
      rintro W h1
      clear sh ch0 ch1 ch2
      clear sa ca0 ca1 ca2 ca3
      clear smore cmore0 cmore1 cmore2 fmore0 fmore1 fmore2
      clear sb cb0 cb1 cb2 cb3
      clear sfast cfast0 cfast1 cfast2 ffast0 ffast1 ffast2
      replace hB := hB.trans (h1.mono hB.size)
      replace rh := Row.below rh h1
      replace ra := Row.below ra h1
      replace rmore := Row.below rmore h1
      replace rb := Row.below rb h1
      replace rfast := Row.below rfast h1
      replace hp := PAt.below hp h1
      replace hp3 := PAt.below hp3 h1
      clear h1
      obtain ⟨sh, ch0, ch1, ch2⟩ := Fh _ rh
      obtain ⟨sa, ca0, ca1, ca2, ca3⟩ := Fa _ ra
      obtain ⟨smore, cmore0, cmore1, cmore2, fmore0, fmore1, fmore2⟩ := Fmore _ rmore
      obtain ⟨sb, cb0, cb1, cb2, cb3⟩ := Fb _ rb
      obtain ⟨sfast, cfast0, cfast1, cfast2, ffast0, ffast1, ffast2⟩ := Ffast _ rfast
      simp only [setItems, List.setIfInBounds_toArray, List.set_cons_succ, List.set_cons_zero, List.take_succ_cons, List.take_zero, List.drop_succ_cons, List.drop_zero]
      rintro _ ⟨psum, rfl, hsum, rsum⟩
      replace dh_sum := Nat.lt_of_lt_of_le dh_sum hsum
      replace da_sum := Nat.lt_of_lt_of_le da_sum hsum
      replace dmore_sum := Nat.lt_of_lt_of_le dmore_sum hsum
      replace db_sum := Nat.lt_of_lt_of_le db_sum hsum
      replace dfast_sum := Nat.lt_of_lt_of_le dfast_sum hsum
      replace d0_sum := Nat.le_trans d0_sum hsum
      have Fsum : ∀ X, Row X psum (.cells #[.string ⟨#[]⟩, .string ⟨#[]⟩] 26) → (psum < X.heap.size ∧ X.cell? ⟨psum, 0, none⟩ = some (.string ⟨#[]⟩) ∧ X.cell? ⟨psum, 1, none⟩ = some (.string ⟨#[]⟩) ∧ X.frozen? ⟨psum, 0, none⟩ = false ∧ X.frozen? ⟨psum, 1, none⟩ = false) := fun X h => ⟨h.1, Row.cell_at h 0 rfl, Row.cell_at h 1 rfl, frozen_of_row _ _ 0 _ _ h.2, frozen_of_row _ _ 1 _ _ h.2⟩
      obtain ⟨ssum, csum0, csum1, fsum0, fsum1⟩ := Fsum _ rsum
      intro _
      go_wp2_with fail
      unfold normalQ
      go_upto_region 13 with fail
      have sB := hB.size
      refine wp_cut (fun X => Below w.heap.size w X ∧ Row X W3.heap.size (.cells #[.string (S r.num), .string (S (r.den : Int)), .slice p m c] 49) ∧ Row X W6.heap.size (.cells #[.string (S a.lo.num), .string (S (a.lo.den : Int)), .string (S a.hi.num), .string (S (a.hi.den : Int))] 29) ∧ Row X pmore (.cells #[.string (S r.num), .string (S (r.den : Int)), .slice p3 lq.length c3] 49) ∧ Row X W9.heap.size (.cells #[.string (S b.lo.num), .string (S (b.lo.den : Int)), .string (S b.hi.num), .string (S (b.hi.den : Int))] 29) ∧ Row X (W9.heap.size + 1) (.cells #[.string (S r.num), .string (S (r.den : Int)), .slice p m c] 49) ∧ Row X psum (.cells #[.string (S s.num), .string (S (s.den : Int))] 26) ∧ PAt X p l ∧ PAt X p3 lq) ⟨BW, RWk, RWk, RWk, RWk, RWk, RWk, (by first | with_reducible exact pat_set3 hp rmore NEH | with_reducible exact pat_set2 hp rsum NER | with_reducible exact pat_set2 hp rfast NEH | with_reducible exact pat_set4 hp rd NEI | exact PAt.below hp BW), (by first | with_reducible exact pat_set3 hp3 rmore NEH | with_reducible exact pat_set2 hp3 rsum NER | with_reducible exact pat_set2 hp3 rfast NEH | with_reducible exact pat_set4 hp3 rd NEI | exact PAt.below hp3 BW)⟩ ?_
      clear rh
      clear sh ch0 ch1 ch2
      clear ra
      clear sa ca0 ca1 ca2 ca3
      clear rmore
      clear smore cmore0 cmore1 cmore2 fmore0 fmore1 fmore2
      clear rb
      clear sb cb0 cb1 cb2 cb3
      clear rfast
      clear sfast cfast0 cfast1 cfast2 ffast0 ffast1 ffast2
      clear rsum
      clear ssum csum0 csum1 fsum0 fsum1
      clear hB sB hp hp3
      rintro V11 ⟨hB, rh, ra, rmore, rb, rfast, rsum, hp, hp3⟩
      obtain ⟨sh, ch0, ch1, ch2⟩ := Fh _ rh
      obtain ⟨sa, ca0, ca1, ca2, ca3⟩ := Fa _ ra
      obtain ⟨smore, cmore0, cmore1, cmore2, fmore0, fmore1, fmore2⟩ := Fmore _ rmore
      obtain ⟨sb, cb0, cb1, cb2, cb3⟩ := Fb _ rb
      obtain ⟨sfast, cfast0, cfast1, cfast2, ffast0, ffast1, ffast2⟩ := Ffast _ rfast
      clear Fsum
      have Fsum : ∀ X, Row X psum (.cells #[.string (S s.num), .string (S (s.den : Int))] 26) → (psum < X.heap.size ∧ X.cell? ⟨psum, 0, none⟩ = some (.string (S s.num)) ∧ X.cell? ⟨psum, 1, none⟩ = some (.string (S (s.den : Int))) ∧ X.frozen? ⟨psum, 0, none⟩ = false ∧ X.frozen? ⟨psum, 1, none⟩ = false) := fun X h => ⟨h.1, Row.cell_at h 0 rfl, Row.cell_at h 1 rfl, frozen_of_row _ _ 0 _ _ h.2, frozen_of_row _ _ 1 _ _ h.2⟩
      obtain ⟨ssum, csum0, csum1, fsum0, fsum1⟩ := Fsum _ rsum
      go_wp2_with fail
      clear Ffast
      clear Fsum
      have sB := hB.size
      refine world_cut (fun X => Below w.heap.size w X ∧ Row X W3.heap.size (.cells #[.string (S r.num), .string (S (r.den : Int)), .slice p m c] 49) ∧ Row X W6.heap.size (.cells #[.string (S a.lo.num), .string (S (a.lo.den : Int)), .string (S a.hi.num), .string (S (a.hi.den : Int))] 29) ∧ Row X pmore (.cells #[.string (S r.num), .string (S (r.den : Int)), .slice p3 lq.length c3] 49) ∧ Row X W9.heap.size (.cells #[.string (S b.lo.num), .string (S (b.lo.den : Int)), .string (S b.hi.num), .string (S (b.hi.den : Int))] 29) ∧ PAt X p l ∧ PAt X p3 lq) ⟨BW, RWk, RWk, RWk, RWk, (by first | with_reducible exact pat_set3 hp rmore NEH | with_reducible exact pat_set2 hp rsum NER | with_reducible exact pat_set2 hp rfast NEH | with_reducible exact pat_set4 hp rd NEI | exact PAt.below hp BW), (by first | with_reducible exact pat_set3 hp3 rmore NEH | with_reducible exact pat_set2 hp3 rsum NER | with_reducible exact pat_set2 hp3 rfast NEH | with_reducible exact pat_set4 hp3 rd NEI | exact PAt.below hp3 BW)⟩ ?_
      clear rh
      clear sh ch0 ch1 ch2
      clear ra
      clear sa ca0 ca1 ca2 ca3
      clear rmore
      clear smore cmore0 cmore1 cmore2 fmore0 fmore1 fmore2
      clear rb
      clear sb cb0 cb1 cb2 cb3
      clear rfast
      clear sfast cfast0 cfast1 cfast2 ffast0 ffast1 ffast2
      clear rsum
      clear ssum csum0 csum1 fsum0 fsum1
      clear hB sB hp hp3
      rintro V12 ⟨hB, rh, ra, rmore, rb, hp, hp3⟩
      obtain ⟨sh, ch0, ch1, ch2⟩ := Fh _ rh
      obtain ⟨sa, ca0, ca1, ca2, ca3⟩ := Fa _ ra
      obtain ⟨smore, cmore0, cmore1, cmore2, fmore0, fmore1, fmore2⟩ := Fmore _ rmore
      obtain ⟨sb, cb0, cb1, cb2, cb3⟩ := Fb _ rb
      refine (DC _ _ _ hp (he.below hB)).mono ?_
      rintro e W13 ⟨rfl, h1⟩
      clear sh ch0 ch1 ch2
      clear sa ca0 ca1 ca2 ca3
      clear smore cmore0 cmore1 cmore2 fmore0 fmore1 fmore2
      clear sb cb0 cb1 cb2 cb3
      replace hB := hB.trans (h1.mono hB.size)
      replace rh := Row.below rh h1
      replace ra := Row.below ra h1
      replace rmore := Row.below rmore h1
      replace rb := Row.below rb h1
      replace hp := PAt.below hp h1
      replace hp3 := PAt.below hp3 h1
      clear h1
      obtain ⟨sh, ch0, ch1, ch2⟩ := Fh _ rh
      obtain ⟨sa, ca0, ca1, ca2, ca3⟩ := Fa _ ra
      obtain ⟨smore, cmore0, cmore1, cmore2, fmore0, fmore1, fmore2⟩ := Fmore _ rmore
      obtain ⟨sb, cb0, cb1, cb2, cb3⟩ := Fb _ rb
      go_wp2_with fail
      have sB := hB.size
      refine world_cut (fun X => Below w.heap.size w X ∧ Row X W3.heap.size (.cells #[.string (S r.num), .string (S (r.den : Int)), .slice p m c] 49) ∧ Row X W6.heap.size (.cells #[.string (S a.lo.num), .string (S (a.lo.den : Int)), .string (S a.hi.num), .string (S (a.hi.den : Int))] 29) ∧ Row X pmore (.cells #[.string (S r.num), .string (S (r.den : Int)), .slice p3 lq.length c3] 49) ∧ Row X W9.heap.size (.cells #[.string (S b.lo.num), .string (S (b.lo.den : Int)), .string (S b.hi.num), .string (S (b.hi.den : Int))] 29) ∧ PAt X p l ∧ PAt X p3 lq) ⟨BW, RWk, RWk, RWk, RWk, (by first | with_reducible exact pat_set3 hp rmore NEH | with_reducible exact pat_set2 hp rsum NER | with_reducible exact pat_set2 hp rfast NEH | with_reducible exact pat_set4 hp rd NEI | exact PAt.below hp BW), (by first | with_reducible exact pat_set3 hp3 rmore NEH | with_reducible exact pat_set2 hp3 rsum NER | with_reducible exact pat_set2 hp3 rfast NEH | with_reducible exact pat_set4 hp3 rd NEI | exact PAt.below hp3 BW)⟩ ?_
      clear rh
      clear sh ch0 ch1 ch2
      clear ra
      clear sa ca0 ca1 ca2 ca3
      clear rmore
      clear smore cmore0 cmore1 cmore2 fmore0 fmore1 fmore2
      clear rb
      clear sb cb0 cb1 cb2 cb3
      clear hB sB hp hp3
      rintro V14 ⟨hB, rh, ra, rmore, rb, hp, hp3⟩
      obtain ⟨sh, ch0, ch1, ch2⟩ := Fh _ rh
      obtain ⟨sa, ca0, ca1, ca2, ca3⟩ := Fa _ ra
      obtain ⟨smore, cmore0, cmore1, cmore2, fmore0, fmore1, fmore2⟩ := Fmore _ rmore
      obtain ⟨sb, cb0, cb1, cb2, cb3⟩ := Fb _ rb
      refine (WAC _ (he.below hB)).mono ?_
      rintro e W15 ⟨rfl, h1⟩
      clear sh ch0 ch1 ch2
      clear sa ca0 ca1 ca2 ca3
      clear smore cmore0 cmore1 cmore2 fmore0 fmore1 fmore2
      clear sb cb0 cb1 cb2 cb3
      replace hB := hB.trans (h1.mono hB.size)
      replace rh := Row.below rh h1
      replace ra := Row.below ra h1
      replace rmore := Row.below rmore h1
      replace rb := Row.below rb h1
      replace hp := PAt.below hp h1
      replace hp3 := PAt.below hp3 h1
      clear h1
      obtain ⟨sh, ch0, ch1, ch2⟩ := Fh _ rh
      obtain ⟨sa, ca0, ca1, ca2, ca3⟩ := Fa _ ra
      obtain ⟨smore, cmore0, cmore1, cmore2, fmore0, fmore1, fmore2⟩ := Fmore _ rmore
      obtain ⟨sb, cb0, cb1, cb2, cb3⟩ := Fb _ rb
      go_wp2_with fail
      clear ra
      clear sa ca0 ca1 ca2 ca3
      clear Fa
      clear rb
      clear sb cb0 cb1 cb2 cb3
      clear Fb
      refine (WBA _ (he.below hB)).mono ?_
      rintro e W16 ⟨rfl, h1⟩
      clear sh ch0 ch1 ch2
      clear smore cmore0 cmore1 cmore2 fmore0 fmore1 fmore2
      replace hB := hB.trans (h1.mono hB.size)
      replace rh := Row.below rh h1
      replace rmore := Row.below rmore h1
      replace hp := PAt.below hp h1
      replace hp3 := PAt.below hp3 h1
      clear h1
      obtain ⟨sh, ch0, ch1, ch2⟩ := Fh _ rh
      obtain ⟨smore, cmore0, cmore1, cmore2, fmore0, fmore1, fmore2⟩ := Fmore _ rmore
      clear hp3
      go_wp2_with fail
      clear rmore
      clear smore cmore0 cmore1 cmore2 fmore0 fmore1 fmore2
      clear Fmore
      go_loopw [24] (fun v24 wr => ∃ i : Nat, v24 = .int .i64 (i : Int) ∧ i ≤ m ∧ PAt wr p l ∧ Below w.heap.size w wr ∧ Row wr W3.heap.size (.cells #[.string (S r.num), .string (S (r.den : Int)), .slice p m c] 49)) (fun v24 _ => (m - intOf v24).toNat)
      case atStart => exact ⟨0, rfl, Nat.zero_le _, hp, hB, rh⟩
      case round =>
        clear sh ch0 ch1 ch2
        clear hB rh
        obtain ⟨i, rfl, him, hp, hB, rh⟩ := hrel
        rcases Nat.lt_or_ge i m with hlt | hge
        · have hlt' : i < l.length := by rw [HM0.out]; exact hlt
          obtain ⟨u, hu⟩ : ∃ u, u = ptD l i := ⟨_, rfl⟩
          have hul : u ∈ l := hu ▸ ptD_mem hlt'
          obtain ⟨d, kd⟩ := exists_knows ⟨r, l⟩ u.t hne
          have DD := fun W p c (hp : PAt W p l) (H : Env W) => dat_known NK.ok hfr kd (NK.ok.times u hul) p m c HM0.out hm1 W hp H
          have WD := fun W (H : Env W) => ewithin4 (NK.du hfr hul kd) W H
          unfold BoolOk I at WD
          obtain ⟨g, cur, hpg, rg, g0, g1, g2, g3, g4⟩ := PAt.at hp hlt'
          rw [← hu] at g0 g1 g2 g3 g4
          clear hu hul
          subst hpg
          have Fh : ∀ X, Row X W3.heap.size (.cells #[.string (S r.num), .string (S (r.den : Int)), .slice (some ⟨g, 0, none⟩) m c] 49) → (W3.heap.size < X.heap.size ∧ X.cell? ⟨W3.heap.size, 0, none⟩ = some (.string (S r.num)) ∧ X.cell? ⟨W3.heap.size, 1, none⟩ = some (.string (S (r.den : Int))) ∧ X.cell? ⟨W3.heap.size, 2, none⟩ = some (.slice (some ⟨g, 0, none⟩) m c)) := fun X h => ⟨h.1, Row.cell_at h 0 rfl, Row.cell_at h 1 rfl, Row.cell_at h 2 rfl⟩
          obtain ⟨sh, ch0, ch1, ch2⟩ := Fh _ rh
          have Fg : ∀ X, Row X g (.cells cur 53) → (g < X.heap.size ∧ X.cell? ⟨g, i * 5, none⟩ = some (.int .i64 (u.t : Int)) ∧ X.cell? ⟨g, i * 5 + 1, none⟩ = some (.string (S u.iv.lo.num)) ∧ X.cell? ⟨g, i * 5 + 2, none⟩ = some (.string (S (u.iv.lo.den : Int))) ∧ X.cell? ⟨g, i * 5 + 3, none⟩ = some (.string (S u.iv.hi.num)) ∧ X.cell? ⟨g, i * 5 + 4, none⟩ = some (.string (S (u.iv.hi.den : Int)))) := fun X h => ⟨h.1, Row.cell_at h _ g0, Row.cell_at h _ g1, Row.cell_at h _ g2, Row.cell_at h _ g3, Row.cell_at h _ g4⟩
          obtain ⟨sg, cg0, cg1, cg2, cg3, cg4⟩ := Fg _ rg
          have hi : (i : Int) < (m : Int) := by omega
          go_wp2_with fail
          have dh_d := rh.1
          have dg_d := rg.1
          have d0_d := hB.size
          refine wp_region_late 12 [10] [.val (.agg #[.string (S r.num), .string (S (r.den : Int)), .slice (some ⟨g, 0, none⟩) m c]), .val (.pointer (some ⟨W3.heap.size, 2, none⟩)), .val (.slice (some ⟨g, 0, none⟩) m c), .val (.int .i64 (i : Int)), .val (.pointer (some ⟨g, i * 5, none⟩)), .val (.pointer (some ⟨g, i * 5, none⟩)), .val (.int .i64 (u.t : Int)), .val (.tuple #[.agg #[.string (S d.lo.num), .string (S (d.lo.den : Int)), .string (S d.hi.num), .string (S (d.hi.den : Int))], .int .i64 0]), .val (.tuple #[.agg #[.string (S d.lo.num), .string (S (d.lo.den : Int)), .string (S d.hi.num), .string (S (d.hi.den : Int))], .int .i64 0]), .val (.agg #[.string (S d.lo.num), .string (S (d.lo.den : Int)), .string (S d.hi.num), .string (S (d.hi.den : Int))]), .val (.int .i64 0), .say (fresh _ (.cells #[.string ⟨#[]⟩, .string ⟨#[]⟩, .string ⟨#[]⟩, .string ⟨#[]⟩] 29))] [25] (by kernel_rfl) (by kernel_rfl) (by kernel_rfl) rfl ⟨fresh_mono _ _, trivial⟩ (allItems.cons (qi1 fun X h => Fh X (Row.below rh h)) (allItems.cons qi0 (allItems.cons (qi1 fun X h => Fh X (Row.below rh h)) (allItems.cons qi0 (allItems.cons (qif hi) (allItems.cons qi0 (allItems.cons (qi1 fun X h => Fg X (Row.below rg h)) (allItems.cons (qi2 fun X h => DD X _ _ (PAt.below hp h) (he.below (hB.trans (h.mono hB.size)))) (allItems.cons qi0 (allItems.cons qi0 (allItems.cons qi0 (allItems.cons qia trivial)))))))))))) ?_
          rintro W h1
          clear sh ch0 ch1 ch2
          clear sg cg0 cg1 cg2 cg3 cg4
          replace hB := hB.trans (h1.mono hB.size)
          replace rh := Row.below rh h1
          replace rg := Row.below rg h1
          replace hp := PAt.below hp h1
          clear h1
          obtain ⟨sh, ch0, ch1, ch2⟩ := Fh _ rh
          obtain ⟨sg, cg0, cg1, cg2, cg3, cg4⟩ := Fg _ rg
          simp only [setItems, List.setIfInBounds_toArray, List.set_cons_succ, List.set_cons_zero, List.take_succ_cons, List.take_zero, List.drop_succ_cons, List.drop_zero]
          rintro _ ⟨pd, rfl, hd, rd⟩
          replace dh_d := Nat.lt_of_lt_of_le dh_d hd
          replace dg_d := Nat.lt_of_lt_of_le dg_d hd
          replace d0_d := Nat.le_trans d0_d hd
          have Fd : ∀ X, Row X pd (.cells #[.string ⟨#[]⟩, .string ⟨#[]⟩, .string ⟨#[]⟩, .string ⟨#[]⟩] 29) → (pd < X.heap.size ∧ X.cell? ⟨pd, 0, none⟩ = some (.string ⟨#[]⟩) ∧ X.cell? ⟨pd, 1, none⟩ = some (.string ⟨#[]⟩) ∧ X.cell? ⟨pd, 2, none⟩ = some (.string ⟨#[]⟩) ∧ X.cell? ⟨pd, 3, none⟩ = some (.string ⟨#[]⟩) ∧ X.frozen? ⟨pd, 0, none⟩ = false ∧ X.frozen? ⟨pd, 1, none⟩ = false ∧ X.frozen? ⟨pd, 2, none⟩ = false ∧ X.frozen? ⟨pd, 3, none⟩ = false) := fun X h => ⟨h.1, Row.cell_at h 0 rfl, Row.cell_at h 1 rfl, Row.cell_at h 2 rfl, Row.cell_at h 3 rfl, frozen_of_row _ _ 0 _ _ h.2, frozen_of_row _ _ 1 _ _ h.2, frozen_of_row _ _ 2 _ _ h.2, frozen_of_row _ _ 3 _ _ h.2⟩
          obtain ⟨sd, cd0, cd1, cd2, cd3, fd0, fd1, fd2, fd3⟩ := Fd _ rd
          intro _
          go_wp2_with fail
          unfold normalQ
          go_wp2_with fail
          have sB := hB.size
          refine wp_cut (fun X => Below w.heap.size w X ∧ Row X W3.heap.size (.cells #[.string (S r.num), .string (S (r.den : Int)), .slice (some ⟨g, 0, none⟩) m c] 49) ∧ Row X g (.cells cur 53) ∧ Row X pd (.cells #[.string (S d.lo.num), .string (S (d.lo.den : Int)), .string (S d.hi.num), .string (S (d.hi.den : Int))] 29) ∧ PAt X (some ⟨g, 0, none⟩) l) ⟨BW, RWk, RWk, RWk, (by first | with_reducible exact pat_set3 hp rmore NEH | with_reducible exact pat_set2 hp rsum NER | with_reducible exact pat_set2 hp rfast NEH | with_reducible exact pat_set4 hp rd NEI | exact PAt.below hp BW)⟩ ?_
          clear rh
          clear sh ch0 ch1 ch2
          clear rg
          clear sg cg0 cg1 cg2 cg3 cg4
          clear rd
          clear sd cd0 cd1 cd2 cd3 fd0 fd1 fd2 fd3
          clear hB sB hp
          rintro V17 ⟨hB, rh, rg, rd, hp⟩
          obtain ⟨sh, ch0, ch1, ch2⟩ := Fh _ rh
          obtain ⟨sg, cg0, cg1, cg2, cg3, cg4⟩ := Fg _ rg
          clear Fd
          have Fd : ∀ X, Row X pd (.cells #[.string (S d.lo.num), .string (S (d.lo.den : Int)), .string (S d.hi.num), .string (S (d.hi.den : Int))] 29) → (pd < X.heap.size ∧ X.cell? ⟨pd, 0, none⟩ = some (.string (S d.lo.num)) ∧ X.cell? ⟨pd, 1, none⟩ = some (.string (S (d.lo.den : Int))) ∧ X.cell? ⟨pd, 2, none⟩ = some (.string (S d.hi.num)) ∧ X.cell? ⟨pd, 3, none⟩ = some (.string (S (d.hi.den : Int))) ∧ X.frozen? ⟨pd, 0, none⟩ = false ∧ X.frozen? ⟨pd, 1, none⟩ = false ∧ X.frozen? ⟨pd, 2, none⟩ = false ∧ X.frozen? ⟨pd, 3, none⟩ = false) := fun X h => ⟨h.1, Row.cell_at h 0 rfl, Row.cell_at h 1 rfl, Row.cell_at h 2 rfl, Row.cell_at h 3 rfl, frozen_of_row _ _ 0 _ _ h.2, frozen_of_row _ _ 1 _ _ h.2, frozen_of_row _ _ 2 _ _ h.2, frozen_of_row _ _ 3 _ _ h.2⟩
          obtain ⟨sd, cd0, cd1, cd2, cd3, fd0, fd1, fd2, fd3⟩ := Fd _ rd
          refine wp_region_vals [.int .i64 0, .bool false, .bool false, .agg #[.string (S d.lo.num), .string (S (d.lo.den : Int)), .string (S d.hi.num), .string (S (d.hi.den : Int))], .pointer (some ⟨W3.heap.size, 2, none⟩), .slice (some ⟨g, 0, none⟩) m c, .int .i64 (i : Int), .pointer (some ⟨g, i * 5, none⟩), .pointer (some ⟨g, i * 5 + 1, none⟩), .agg #[.string (S u.iv.lo.num), .string (S (u.iv.lo.den : Int)), .string (S u.iv.hi.num), .string (S (u.iv.hi.den : Int))], .bool true, .bool false, .bool false] (by kernel_rfl) (by kernel_rfl) rfl (allVals.cons qv0 (allVals.cons (qvf hi) (allVals.cons qv0 (allVals.cons (qv1 fun X h => Fd X (Row.below rd h)) (allVals.cons qv0 (allVals.cons (qv1 fun X h => Fh X (Row.below rh h)) (allVals.cons qv0 (allVals.cons (qvf hi) (allVals.cons qv0 (allVals.cons (qv1 fun X h => Fg X (Row.below rg h)) (allVals.cons (qv2 fun X h => WD X (he.below (hB.trans (h.mono hB.size)))) (allVals.cons (qvf hi) (allVals.cons (qvf hi) trivial))))))))))))) ?_
          rintro W h1
          clear sh ch0 ch1 ch2
          clear sg cg0 cg1 cg2 cg3 cg4
          clear sd cd0 cd1 cd2 cd3 fd0 fd1 fd2 fd3
          replace hB := hB.trans (h1.mono hB.size)
          replace rh := Row.below rh h1
          replace rg := Row.below rg h1
          replace rd := Row.below rd h1
          replace hp := PAt.below hp h1
          clear h1
          obtain ⟨sh, ch0, ch1, ch2⟩ := Fh _ rh
          obtain ⟨sg, cg0, cg1, cg2, cg3, cg4⟩ := Fg _ rg
          obtain ⟨sd, cd0, cd1, cd2, cd3, fd0, fd1, fd2, fd3⟩ := Fd _ rd
          simp only [setVals, List.setIfInBounds_toArray, List.set_cons_succ, List.set_cons_zero]
          go_wp2
          go_roundw
          case rel => exact ⟨i + 1, by go_num, by omega, (by first | exact PAt.below hp BW), BW, RWh⟩
          case measure => simp [intOf]; omega
        · obtain rfl : m = i := by omega
          obtain ⟨sh, ch0, ch1, ch2⟩ := Fh _ rh
          go_wp2
          go_ret
          exact ⟨rfl, hB⟩
    · have DB := fun W p c (hp : PAt W p lq) (H : Env W) => dat_bad NK.okI hq ht3 p lq.length c rfl (List.length_pos_iff.2 NK.ne) W hp H
      have MCN := fun W p c (hp : PAt W p lq) (H : Env W) => dcons_n NK.okI p lq.length c rfl W hp H
      unfold AtErr at DB
      have HQ := Lib.hid hq
      clear hq
      go_wp2_with fail
      clear Fbp
      have sB := hB.size
      refine world_cut (fun X => Below w.heap.size w X ∧ Row X W3.heap.size (.cells #[.string (S r.num), .string (S (r.den : Int)), .slice p m c] 49) ∧ Row X W6.heap.size (.cells #[.string (S a.lo.num), .string (S (a.lo.den : Int)), .string (S a.hi.num), .string (S (a.hi.den : Int))] 29) ∧ Row X pmore (.cells #[.string (S r.num), .string (S (r.den : Int)), .slice p3 lq.length c3] 49) ∧ PAt X p l ∧ PAt X p3 lq) ⟨BW, RWk, RWk, RWk, (by first | with_reducible exact pat_set3 hp rmore NEH | with_reducible exact pat_set2 hp rsum NER | with_reducible exact pat_set2 hp rfast NEH | with_reducible exact pat_set4 hp rd NEI | exact PAt.below hp BW), (by first | with_reducible exact pat_set3 hp3 rmore NEH | with_reducible exact pat_set2 hp3 rsum NER | with_reducible exact pat_set2 hp3 rfast NEH | with_reducible exact pat_set4 hp3 rd NEI | exact PAt.below hp3 BW)⟩ ?_
      clear rbp
      clear sbp cbp0 cbp1 cbp2 cbp3
      clear rh
      clear sh ch0 ch1 ch2
      clear ra
      clear sa ca0 ca1 ca2 ca3
      clear rmore
      clear smore cmore0 cmore1 cmore2 fmore0 fmore1 fmore2
      clear hB sB hp hp3
      rintro V8 ⟨hB, rh, ra, rmore, hp, hp3⟩
      obtain ⟨sh, ch0, ch1, ch2⟩ := Fh _ rh
      obtain ⟨sa, ca0, ca1, ca2, ca3⟩ := Fa _ ra
      clear Fmore
      have Fmore : ∀ X, Row X pmore (.cells #[.string (S r.num), .string (S (r.den : Int)), .slice p3 lq.length c3] 49) → (pmore < X.heap.size ∧ X.cell? ⟨pmore, 0, none⟩ = some (.string (S r.num)) ∧ X.cell? ⟨pmore, 1, none⟩ = some (.string (S (r.den : Int))) ∧ X.cell? ⟨pmore, 2, none⟩ = some (.slice p3 lq.length c3) ∧ X.frozen? ⟨pmore, 0, none⟩ = false ∧ X.frozen? ⟨pmore, 1, none⟩ = false ∧ X.frozen? ⟨pmore, 2, none⟩ = false) := fun X h => ⟨h.1, Row.cell_at h 0 rfl, Row.cell_at h 1 rfl, Row.cell_at h 2 rfl, frozen_of_row _ _ 0 _ _ h.2, frozen_of_row _ _ 1 _ _ h.2, frozen_of_row _ _ 2 _ _ h.2⟩
      obtain ⟨smore, cmore0, cmore1, cmore2, fmore0, fmore1, fmore2⟩ := Fmore _ rmore
      refine (DB _ _ _ hp3 (he.below hB)).mono ?_
      rintro e W9 ⟨rfl, h1⟩
      clear sh ch0 ch1 ch2
      clear sa ca0 ca1 ca2 ca3
      clear smore cmore0 cmore1 cmore2 fmore0 fmore1 fmore2
      replace hB := hB.trans (h1.mono hB.size)
      replace rh := Row.below rh h1
      replace ra := Row.below ra h1
      replace rmore := Row.below rmore h1
      replace hp := PAt.below hp h1
      replace hp3 := PAt.below hp3 h1
      clear h1
      obtain ⟨sh, ch0, ch1, ch2⟩ := Fh _ rh
      obtain ⟨sa, ca0, ca1, ca2, ca3⟩ := Fa _ ra
      obtain ⟨smore, cmore0, cmore1, cmore2, fmore0, fmore1, fmore2⟩ := Fmore _ rmore
      go_wp2_with fail
      have dmore_b : pmore < W9.heap.size := by omega
      have dh_fast : W3.heap.size < W9.heap.size + 1 := by omega
      have da_fast : W6.heap.size < W9.heap.size + 1 := by omega
      have dmore_fast : pmore < W9.heap.size + 1 := by omega
      have d0_fast : w.heap.size ≤ W9.heap.size + 1 := by have := hB.size; omega
      have sB := hB.size
      refine wp_cut (fun X => Below w.heap.size w X ∧ Row X W3.heap.size (.cells #[.string (S r.num), .string (S (r.den : Int)), .slice p m c] 49) ∧ Row X W6.heap.size (.cells #[.string (S a.lo.num), .string (S (a.lo.den : Int)), .string (S a.hi.num), .string (S (a.hi.den : Int))] 29) ∧ Row X pmore (.cells #[.string (S r.num), .string (S (r.den : Int)), .slice p3 lq.length c3] 49) ∧ Row X W9.heap.size (.cells #[.string ⟨#[]⟩, .string ⟨#[]⟩, .string ⟨#[]⟩, .string ⟨#[]⟩] 29) ∧ Row X (W9.heap.size + 1) (.cells #[.string (S r.num), .string (S (r.den : Int)), .slice p m c] 49) ∧ PAt X p l ∧ PAt X p3 lq) ⟨BW, RWk, RWk, RWk, RWk, RWk, (by first | with_reducible exact pat_set3 hp rmore NEH | with_reducible exact pat_set2 hp rsum NER | with_reducible exact pat_set2 hp rfast NEH | with_reducible exact pat_set4 hp rd NEI | exact PAt.below hp BW), (by first | with_reducible exact pat_set3 hp3 rmore NEH | with_reducible exact pat_set2 hp3 rsum NER | with_reducible exact pat_set2 hp3 rfast NEH | with_reducible exact pat_set4 hp3 rd NEI | exact PAt.below hp3 BW)⟩ ?_
      clear rh
      clear sh ch0 ch1 ch2
      clear ra
      clear sa ca0 ca1 ca2 ca3
      clear rmore
      clear smore cmore0 cmore1 cmore2 fmore0 fmore1 fmore2
      clear hB sB hp hp3
      rintro V10 ⟨hB, rh, ra, rmore, rb, rfast, hp, hp3⟩
      obtain ⟨sh, ch0, ch1, ch2⟩ := Fh _ rh
      obtain ⟨sa, ca0, ca1, ca2, ca3⟩ := Fa _ ra
      obtain ⟨smore, cmore0, cmore1, cmore2, fmore0, fmore1, fmore2⟩ := Fmore _ rmore
      have Fb : ∀ X, Row X W9.heap.size (.cells #[.string ⟨#[]⟩, .string ⟨#[]⟩, .string ⟨#[]⟩, .string ⟨#[]⟩] 29) → (W9.heap.size < X.heap.size ∧ X.cell? ⟨W9.heap.size, 0, none⟩ = some (.string ⟨#[]⟩) ∧ X.cell? ⟨W9.heap.size, 1, none⟩ = some (.string ⟨#[]⟩) ∧ X.cell? ⟨W9.heap.size, 2, none⟩ = some (.string ⟨#[]⟩) ∧ X.cell? ⟨W9.heap.size, 3, none⟩ = some (.string ⟨#[]⟩)) := fun X h => ⟨h.1, Row.cell_at h 0 rfl, Row.cell_at h 1 rfl, Row.cell_at h 2 rfl, Row.cell_at h 3 rfl⟩
      obtain ⟨sb, cb0, cb1, cb2, cb3⟩ := Fb _ rb
      have Ffast : ∀ X, Row X (W9.heap.size + 1) (.cells #[.string (S r.num), .string (S (r.den : Int)), .slice p m c] 49) → (W9.heap.size + 1 < X.heap.size ∧ X.cell? ⟨W9.heap.size + 1, 0, none⟩ = some (.string (S r.num)) ∧ X.cell? ⟨W9.heap.size + 1, 1, none⟩ = some (.string (S (r.den : Int))) ∧ X.cell? ⟨W9.heap.size + 1, 2, none⟩ = some (.slice p m c) ∧ X.frozen? ⟨W9.heap.size + 1, 0, none⟩ = false ∧ X.frozen? ⟨W9.heap.size + 1, 1, none⟩ = false ∧ X.frozen? ⟨W9.heap.size + 1, 2, none⟩ = false) := fun X h => ⟨h.1, Row.cell_at h 0 rfl, Row.cell_at h 1 rfl, Row.cell_at h 2 rfl, frozen_of_row _ _ 0 _ _ h.2, frozen_of_row _ _ 1 _ _ h.2, frozen_of_row _ _ 2 _ _ h.2⟩
      obtain ⟨sfast, cfast0, cfast1, cfast2, ffast0, ffast1, ffast2⟩ := Ffast _ rfast
      have dh_sum := rh.1
      have da_sum := ra.1
      have dmore_sum := rmore.1
      have db_sum := rb.1
      have dfast_sum := rfast.1
      have d0_sum := hB.size
      refine wp_region_late 10 [8] [.val (.pointer (some ⟨W3.heap.size, 0, none⟩)), .val (.agg #[.string (S r.num), .string (S (r.den : Int))]), .val (.int .i64 fa), .val (.int .i64 kf), .val (.agg #[.string (S q3.num), .string (S (q3.den : Int))]), .val (.tuple #[.agg #[.string (S s.num), .string (S (s.den : Int))], .int .i64 0]), .val (.tuple #[.agg #[.string (S s.num), .string (S (s.den : Int))], .int .i64 0]), .val (.agg #[.string (S s.num), .string (S (s.den : Int))]), .val (.int .i64 0), .say (fresh _ (.cells #[.string ⟨#[]⟩, .string ⟨#[]⟩] 26))] [20] (by kernel_rfl) (by kernel_rfl) (by kernel_rfl) rfl ⟨fresh_mono _ _, trivial⟩ (allItems.cons qi0 (allItems.cons (qi1 fun X h => Fh X (Row.below rh h)) (allItems.cons qi0 (allItems.cons (qi2 fun X h => KF X) (allItems.cons (qi2 fun X h => MO X (he.below (hB.trans (h.mono hB.size)))) (allItems.cons (qi2 fun X h => MA X (he.below (hB.trans (h.mono hB.size)))) (allItems.cons qi0 (allItems.cons qi0 (allItems.cons qi0 (allItems.cons qia trivial)))))))))) ?_
      rintro W h1
      clear sh ch0 ch1 ch2
      clear sa ca0 ca1 ca2 ca3
      clear smore cmore0 cmore1 cmore2 fmore0 fmore1 fmore2
      clear sb cb0 cb1 cb2 cb3
      clear sfast cfast0 cfast1 cfast2 ffast0 ffast1 ffast2
      replace hB := hB.trans (h1.mono hB.size)
      replace rh := Row.below rh h1
      replace ra := Row.below ra h1
      replace rmore := Row.below rmore h1
      replace rb := Row.below rb h1
      replace rfast := Row.below rfast h1
      replace hp := PAt.below hp h1
      replace hp3 := PAt.below hp3 h1
      clear h1
      obtain ⟨sh, ch0, ch1, ch2⟩ := Fh _ rh
      obtain ⟨sa, ca0, ca1, ca2, ca3⟩ := Fa _ ra
      obtain ⟨smore, cmore0, cmore1, cmore2, fmore0, fmore1, fmore2⟩ := Fmore _ rmore
      obtain ⟨sb, cb0, cb1, cb2, cb3⟩ := Fb _ rb
      obtain ⟨sfast, cfast0, cfast1, cfast2, ffast0, ffast1, ffast2⟩ := Ffast _ rfast
      simp only [setItems, List.setIfInBounds_toArray, List.set_cons_succ, List.set_cons_zero, List.take_succ_cons, List.take_zero, List.drop_succ_cons, List.drop_zero]
      rintro _ ⟨psum, rfl, hsum, rsum⟩
      replace dh_sum := Nat.lt_of_lt_of_le dh_sum hsum
      replace da_sum := Nat.lt_of_lt_of_le da_sum hsum
      replace dmore_sum := Nat.lt_of_lt_of_le dmore_sum hsum
      replace db_sum := Nat.lt_of_lt_of_le db_sum hsum
      replace dfast_sum := Nat.lt_of_lt_of_le dfast_sum hsum
      replace d0_sum := Nat.le_trans d0_sum hsum
      have Fsum : ∀ X, Row X psum (.cells #[.string ⟨#[]⟩, .string ⟨#[]⟩] 26) → (psum < X.heap.size ∧ X.cell? ⟨psum, 0, none⟩ = some (.string ⟨#[]⟩) ∧ X.cell? ⟨psum, 1, none⟩ = some (.string ⟨#[]⟩) ∧ X.frozen? ⟨psum, 0, none⟩ = false ∧ X.frozen? ⟨psum, 1, none⟩ = false) := fun X h => ⟨h.1, Row.cell_at h 0 rfl, Row.cell_at h 1 rfl, frozen_of_row _ _ 0 _ _ h.2, frozen_of_row _ _ 1 _ _ h.2⟩
      obtain ⟨ssum, csum0, csum1, fsum0, fsum1⟩ := Fsum _ rsum
      intro _
      go_wp2_with fail
      unfold normalQ
      go_upto_region 13 with fail
      have sB := hB.size
      refine wp_cut (fun X => Below w.heap.size w X ∧ Row X W3.heap.size (.cells #[.string (S r.num), .string (S (r.den : Int)), .slice p m c] 49) ∧ Row X W6.heap.size (.cells #[.string (S a.lo.num), .string (S (a.lo.den : Int)), .string (S a.hi.num), .string (S (a.hi.den : Int))] 29) ∧ Row X pmore (.cells #[.string (S r.num), .string (S (r.den : Int)), .slice p3 lq.length c3] 49) ∧ Row X W9.heap.size (.cells #[.string ⟨#[]⟩, .string ⟨#[]⟩, .string ⟨#[]⟩, .string ⟨#[]⟩] 29) ∧ Row X (W9.heap.size + 1) (.cells #[.string (S r.num), .string (S (r.den : Int)), .slice p m c] 49) ∧ Row X psum (.cells #[.string (S s.num), .string (S (s.den : Int))] 26) ∧ PAt X p l ∧ PAt X p3 lq) ⟨BW, RWk, RWk, RWk, RWk, RWk, RWk, (by first | with_reducible exact pat_set3 hp rmore NEH | with_reducible exact pat_set2 hp rsum NER | with_reducible exact pat_set2 hp rfast NEH | with_reducible exact pat_set4 hp rd NEI | exact PAt.below hp BW), (by first | with_reducible exact pat_set3 hp3 rmore NEH | with_reducible exact pat_set2 hp3 rsum NER | with_reducible exact pat_set2 hp3 rfast NEH | with_reducible exact pat_set4 hp3 rd NEI | exact PAt.below hp3 BW)⟩ ?_
      clear rh
      clear sh ch0 ch1 ch2
      clear ra
      clear sa ca0 ca1 ca2 ca3
      clear rmore
      clear smore cmore0 cmore1 cmore2 fmore0 fmore1 fmore2
      clear rb
      clear sb cb0 cb1 cb2 cb3
      clear rfast
      clear sfast cfast0 cfast1 cfast2 ffast0 ffast1 ffast2
      clear rsum
      clear ssum csum0 csum1 fsum0 fsum1
      clear hB sB hp hp3
      rintro V11 ⟨hB, rh, ra, rmore, rb, rfast, rsum, hp, hp3⟩
      obtain ⟨sh, ch0, ch1, ch2⟩ := Fh _ rh
      obtain ⟨sa, ca0, ca1, ca2, ca3⟩ := Fa _ ra
      obtain ⟨smore, cmore0, cmore1, cmore2, fmore0, fmore1, fmore2⟩ := Fmore _ rmore
      obtain ⟨sb, cb0, cb1, cb2, cb3⟩ := Fb _ rb
      obtain ⟨sfast, cfast0, cfast1, cfast2, ffast0, ffast1, ffast2⟩ := Ffast _ rfast
      clear Fsum
      have Fsum : ∀ X, Row X psum (.cells #[.string (S s.num), .string (S (s.den : Int))] 26) → (psum < X.heap.size ∧ X.cell? ⟨psum, 0, none⟩ = some (.string (S s.num)) ∧ X.cell? ⟨psum, 1, none⟩ = some (.string (S (s.den : Int))) ∧ X.frozen? ⟨psum, 0, none⟩ = false ∧ X.frozen? ⟨psum, 1, none⟩ = false) := fun X h => ⟨h.1, Row.cell_at h 0 rfl, Row.cell_at h 1 rfl, frozen_of_row _ _ 0 _ _ h.2, frozen_of_row _ _ 1 _ _ h.2⟩
      obtain ⟨ssum, csum0, csum1, fsum0, fsum1⟩ := Fsum _ rsum
      go_wp2_with fail
      clear Ffast
      clear Fsum
      have sB := hB.size
      refine world_cut (fun X => Below w.heap.size w X ∧ Row X W3.heap.size (.cells #[.string (S r.num), .string (S (r.den : Int)), .slice p m c] 49) ∧ Row X W6.heap.size (.cells #[.string (S a.lo.num), .string (S (a.lo.den : Int)), .string (S a.hi.num), .string (S (a.hi.den : Int))] 29) ∧ Row X pmore (.cells #[.string (S r.num), .string (S (r.den : Int)), .slice p3 lq.length c3] 49) ∧ Row X W9.heap.size (.cells #[.string ⟨#[]⟩, .string ⟨#[]⟩, .string ⟨#[]⟩, .string ⟨#[]⟩] 29) ∧ PAt X p l ∧ PAt X p3 lq) ⟨BW, RWk, RWk, RWk, RWk, (by first | with_reducible exact pat_set3 hp rmore NEH | with_reducible exact pat_set2 hp rsum NER | with_reducible exact pat_set2 hp rfast NEH | with_reducible exact pat_set4 hp rd NEI | exact PAt.below hp BW), (by first | with_reducible exact pat_set3 hp3 rmore NEH | with_reducible exact pat_set2 hp3 rsum NER | with_reducible exact pat_set2 hp3 rfast NEH | with_reducible exact pat_set4 hp3 rd NEI | exact PAt.below hp3 BW)⟩ ?_
      clear rh
      clear sh ch0 ch1 ch2
      clear ra
      clear sa ca0 ca1 ca2 ca3
      clear rmore
      clear smore cmore0 cmore1 cmore2 fmore0 fmore1 fmore2
      clear rb
      clear sb cb0 cb1 cb2 cb3
      clear rfast
      clear sfast cfast0 cfast1 cfast2 ffast0 ffast1 ffast2
      clear rsum
      clear ssum csum0 csum1 fsum0 fsum1
      clear hB sB hp hp3
      rintro V12 ⟨hB, rh, ra, rmore, rb, hp, hp3⟩
      obtain ⟨sh, ch0, ch1, ch2⟩ := Fh _ rh
      obtain ⟨sa, ca0, ca1, ca2, ca3⟩ := Fa _ ra
      obtain ⟨smore, cmore0, cmore1, cmore2, fmore0, fmore1, fmore2⟩ := Fmore _ rmore
      obtain ⟨sb, cb0, cb1, cb2, cb3⟩ := Fb _ rb
      refine (DC _ _ _ hp (he.below hB)).mono ?_
      rintro e W13 ⟨rfl, h1⟩
      clear sh ch0 ch1 ch2
      clear sa ca0 ca1 ca2 ca3
      clear smore cmore0 cmore1 cmore2 fmore0 fmore1 fmore2
      clear sb cb0 cb1 cb2 cb3
      replace hB := hB.trans (h1.mono hB.size)
      replace rh := Row.below rh h1
      replace ra := Row.below ra h1
      replace rmore := Row.below rmore h1
      replace rb := Row.below rb h1
      replace hp := PAt.below hp h1
      replace hp3 := PAt.below hp3 h1
      clear h1
      obtain ⟨sh, ch0, ch1, ch2⟩ := Fh _ rh
      obtain ⟨sa, ca0, ca1, ca2, ca3⟩ := Fa _ ra
      obtain ⟨smore, cmore0, cmore1, cmore2, fmore0, fmore1, fmore2⟩ := Fmore _ rmore
      obtain ⟨sb, cb0, cb1, cb2, cb3⟩ := Fb _ rb
      go_upto_region 15 with fail
      have dmore_c : pmore < W13.heap.size := by omega
      have sB := hB.size
      refine wp_cut (fun X => Below w.heap.size w X ∧ Row X W3.heap.size (.cells #[.string (S r.num), .string (S (r.den : Int)), .slice p m c] 49) ∧ Row X W6.heap.size (.cells #[.string (S a.lo.num), .string (S (a.lo.den : Int)), .string (S a.hi.num), .string (S (a.hi.den : Int))] 29) ∧ Row X pmore (.cells #[.string (S r.num), .string (S (r.den : Int)), .slice p3 lq.length c3] 49) ∧ Row X W9.heap.size (.cells #[.string ⟨#[]⟩, .string ⟨#[]⟩, .string ⟨#[]⟩, .string ⟨#[]⟩] 29) ∧ Row X W13.heap.size (.cells #[.string (S cc.lo.num), .string (S (cc.lo.den : Int)), .string (S cc.hi.num), .string (S (cc.hi.den : Int))] 29) ∧ PAt X p l ∧ PAt X p3 lq) ⟨BW, RWk, RWk, RWk, RWk, RWk, (by first | with_reducible exact pat_set3 hp rmore NEH | with_reducible exact pat_set2 hp rsum NER | with_reducible exact pat_set2 hp rfast NEH | with_reducible exact pat_set4 hp rd NEI | exact PAt.below hp BW), (by first | with_reducible exact pat_set3 hp3 rmore NEH | with_reducible exact pat_set2 hp3 rsum NER | with_reducible exact pat_set2 hp3 rfast NEH | with_reducible exact pat_set4 hp3 rd NEI | exact PAt.below hp3 BW)⟩ ?_
      clear rh
      clear sh ch0 ch1 ch2
      clear ra
      clear sa ca0 ca1 ca2 ca3
      clear rmore
      clear smore cmore0 cmore1 cmore2 fmore0 fmore1 fmore2
      clear rb
      clear sb cb0 cb1 cb2 cb3
      clear hB sB hp hp3
      rintro V14 ⟨hB, rh, ra, rmore, rb, rc, hp, hp3⟩
      obtain ⟨sh, ch0, ch1, ch2⟩ := Fh _ rh
      obtain ⟨sa, ca0, ca1, ca2, ca3⟩ := Fa _ ra
      obtain ⟨smore, cmore0, cmore1, cmore2, fmore0, fmore1, fmore2⟩ := Fmore _ rmore
      obtain ⟨sb, cb0, cb1, cb2, cb3⟩ := Fb _ rb
      have Fc : ∀ X, Row X W13.heap.size (.cells #[.string (S cc.lo.num), .string (S (cc.lo.den : Int)), .string (S cc.hi.num), .string (S (cc.hi.den : Int))] 29) → (W13.heap.size < X.heap.size ∧ X.cell? ⟨W13.heap.size, 0, none⟩ = some (.string (S cc.lo.num)) ∧ X.cell? ⟨W13.heap.size, 1, none⟩ = some (.string (S (cc.lo.den : Int))) ∧ X.cell? ⟨W13.heap.size, 2, none⟩ = some (.string (S cc.hi.num)) ∧ X.cell? ⟨W13.heap.size, 3, none⟩ = some (.string (S (cc.hi.den : Int)))) := fun X h => ⟨h.1, Row.cell_at h 0 rfl, Row.cell_at h 1 rfl, Row.cell_at h 2 rfl, Row.cell_at h 3 rfl⟩
      obtain ⟨sc, cc0, cc1, cc2, cc3⟩ := Fc _ rc
      go_cut [123] (fun s123 W => s123 = .bool false ∧ Below w.heap.size w W ∧ Row W W3.heap.size (.cells #[.string (S r.num), .string (S (r.den : Int)), .slice p m c] 49) ∧ Row W W6.heap.size (.cells #[.string (S a.lo.num), .string (S (a.lo.den : Int)), .string (S a.hi.num), .string (S (a.hi.den : Int))] 29) ∧ Row W pmore (.cells #[.string (S r.num), .string (S (r.den : Int)), .slice p3 lq.length c3] 49) ∧ Row W W9.heap.size (.cells #[.string ⟨#[]⟩, .string ⟨#[]⟩, .string ⟨#[]⟩, .string ⟨#[]⟩] 29) ∧ Row W W13.heap.size (.cells #[.string (S cc.lo.num), .string (S (cc.lo.den : Int)), .string (S cc.hi.num), .string (S (cc.hi.den : Int))] 29) ∧ PAt W p l ∧ PAt W p3 lq)
      case first =>
        go_wp2_with fail
        refine (WAC _ (he.below hB)).mono ?_
        rintro e W15 ⟨rfl, h1⟩
        clear sh ch0 ch1 ch2
        clear sa ca0 ca1 ca2 ca3
        clear smore cmore0 cmore1 cmore2 fmore0 fmore1 fmore2
        clear sb cb0 cb1 cb2 cb3
        clear sc cc0 cc1 cc2 cc3
        replace hB := hB.trans (h1.mono hB.size)
        replace rh := Row.below rh h1
        replace ra := Row.below ra h1
        replace rmore := Row.below rmore h1
        replace rb := Row.below rb h1
        replace rc := Row.below rc h1
        replace hp := PAt.below hp h1
        replace hp3 := PAt.below hp3 h1
        clear h1
        obtain ⟨sh, ch0, ch1, ch2⟩ := Fh _ rh
        obtain ⟨sa, ca0, ca1, ca2, ca3⟩ := Fa _ ra
        obtain ⟨smore, cmore0, cmore1, cmore2, fmore0, fmore1, fmore2⟩ := Fmore _ rmore
        obtain ⟨sb, cb0, cb1, cb2, cb3⟩ := Fb _ rb
        obtain ⟨sc, cc0, cc1, cc2, cc3⟩ := Fc _ rc
        go_wp2_with fail
        refine (MCN _ _ _ hp3 (he.below hB)).mono ?_
        rintro e W16 ⟨p5, nc, c5, hn, rfl, h1⟩
        clear sh ch0 ch1 ch2
        clear sa ca0 ca1 ca2 ca3
        clear smore cmore0 cmore1 cmore2 fmore0 fmore1 fmore2
        clear sb cb0 cb1 cb2 cb3
        clear sc cc0 cc1 cc2 cc3
        replace hB := hB.trans (h1.mono hB.size)
        replace rh := Row.below rh h1
        replace ra := Row.below ra h1
        replace rmore := Row.below rmore h1
        replace rb := Row.below rb h1
        replace rc := Row.below rc h1
        replace hp := PAt.below hp h1
        replace hp3 := PAt.below hp3 h1
        clear h1
        obtain ⟨sh, ch0, ch1, ch2⟩ := Fh _ rh
        obtain ⟨sa, ca0, ca1, ca2, ca3⟩ := Fa _ ra
        obtain ⟨smore, cmore0, cmore1, cmore2, fmore0, fmore1, fmore2⟩ := Fmore _ rmore
        obtain ⟨sb, cb0, cb1, cb2, cb3⟩ := Fb _ rb
        obtain ⟨sc, cc0, cc1, cc2, cc3⟩ := Fc _ rc
        have hnc : ¬ ((nc : Int) = 0) := (fun h => HQ.out (hn.1 (by omega))); clear hn
        go_wp2
        go_meet
        case rel => exact ⟨(by first | rfl | (simp; omega)), BW, RWk, RWk, RWk, RWk, RWk, (by first | with_reducible exact pat_set3 hp rmore NEH | with_reducible exact pat_set2 hp rsum NER | with_reducible exact pat_set2 hp rfast NEH | with_reducible exact pat_set4 hp rd NEI | exact PAt.below hp BW), (by first | with_reducible exact pat_set3 hp3 rmore NEH | with_reducible exact pat_set2 hp3 rsum NER | with_reducible exact pat_set2 hp3 rfast NEH | with_reducible exact pat_set4 hp3 rd NEI | exact PAt.below hp3 BW)⟩
      case rest =>
        clear hB rh ra rmore rb rc hp hp3
        clear sh ch0 ch1 ch2
        clear sa ca0 ca1 ca2 ca3
        clear smore cmore0 cmore1 cmore2 fmore0 fmore1 fmore2
        clear sb cb0 cb1 cb2 cb3
        clear sc cc0 cc1 cc2 cc3
        obtain ⟨rfl, hB, rh, ra, rmore, rb, rc, hp, hp3⟩ := hcut
        have sB := hB.size
        clear sB
        obtain ⟨sh, ch0, ch1, ch2⟩ := Fh _ rh
        obtain ⟨sa, ca0, ca1, ca2, ca3⟩ := Fa _ ra
        obtain ⟨smore, cmore0, cmore1, cmore2, fmore0, fmore1, fmore2⟩ := Fmore _ rmore
        obtain ⟨sb, cb0, cb1, cb2, cb3⟩ := Fb _ rb
        obtain ⟨sc, cc0, cc1, cc2, cc3⟩ := Fc _ rc
        clear hp3
        go_wp2_with fail
        clear ra
        clear sa ca0 ca1 ca2 ca3
        clear Fa
        clear rmore
        clear smore cmore0 cmore1 cmore2 fmore0 fmore1 fmore2
        clear Fmore
        clear rb
        clear sb cb0 cb1 cb2 cb3
        clear Fb
        clear rc
        clear sc cc0 cc1 cc2 cc3
        clear Fc
        go_loopw [24] (fun v24 wr => ∃ i : Nat, v24 = .int .i64 (i : Int) ∧ i ≤ m ∧ PAt wr p l ∧ Below w.heap.size w wr ∧ Row wr W3.heap.size (.cells #[.string (S r.num), .string (S (r.den : Int)), .slice p m c] 49)) (fun v24 _ => (m - intOf v24).toNat)
        case atStart => exact ⟨0, rfl, Nat.zero_le _, hp, hB, rh⟩
        case round =>
          clear sh ch0 ch1 ch2
          clear hB rh
          obtain ⟨i, rfl, him, hp, hB, rh⟩ := hrel
          rcases Nat.lt_or_ge i m with hlt | hge
          · have hlt' : i < l.length := by rw [HM0.out]; exact hlt
            obtain ⟨u, hu⟩ : ∃ u, u = ptD l i := ⟨_, rfl⟩
            have hul : u ∈ l := hu ▸ ptD_mem hlt'
            obtain ⟨d, kd⟩ := exists_knows ⟨r, l⟩ u.t hne
            have DD := fun W p c (hp : PAt W p l) (H : Env W) => dat_known NK.ok hfr kd (NK.ok.times u hul) p m c HM0.out hm1 W hp H
            have WD := fun W (H : Env W) => ewithin4 (NK.du hfr hul kd) W H
            unfold BoolOk I at WD
            obtain ⟨g, cur, hpg, rg, g0, g1, g2, g3, g4⟩ := PAt.at hp hlt'
            rw [← hu] at g0 g1 g2 g3 g4
            clear hu hul
            subst hpg
            have Fh : ∀ X, Row X W3.heap.size (.cells #[.string (S r.num), .string (S (r.den : Int)), .slice (some ⟨g, 0, none⟩) m c] 49) → (W3.heap.size < X.heap.size ∧ X.cell? ⟨W3.heap.size, 0, none⟩ = some (.string (S r.num)) ∧ X.cell? ⟨W3.heap.size, 1, none⟩ = some (.string (S (r.den : Int))) ∧ X.cell? ⟨W3.heap.size, 2, none⟩ = some (.slice (some ⟨g, 0, none⟩) m c)) := fun X h => ⟨h.1, Row.cell_at h 0 rfl, Row.cell_at h 1 rfl, Row.cell_at h 2 rfl⟩
            obtain ⟨sh, ch0, ch1, ch2⟩ := Fh _ rh
            have Fg : ∀ X, Row X g (.cells cur 53) → (g < X.heap.size ∧ X.cell? ⟨g, i * 5, none⟩ = some (.int .i64 (u.t : Int)) ∧ X.cell? ⟨g, i * 5 + 1, none⟩ = some (.string (S u.iv.lo.num)) ∧ X.cell? ⟨g, i * 5 + 2, none⟩ = some (.string (S (u.iv.lo.den : Int))) ∧ X.cell? ⟨g, i * 5 + 3, none⟩ = some (.string (S u.iv.hi.num)) ∧ X.cell? ⟨g, i * 5 + 4, none⟩ = some (.string (S (u.iv.hi.den : Int)))) := fun X h => ⟨h.1, Row.cell_at h _ g0, Row.cell_at h _ g1, Row.cell_at h _ g2, Row.cell_at h _ g3, Row.cell_at h _ g4⟩
            obtain ⟨sg, cg0, cg1, cg2, cg3, cg4⟩ := Fg _ rg
            have hi : (i : Int) < (m : Int) := by omega
            go_wp2_with fail
            have dh_d := rh.1
            have dg_d := rg.1
            have d0_d := hB.size
            refine wp_region_late 12 [10] [.val (.agg #[.string (S r.num), .string (S (r.den : Int)), .slice (some ⟨g, 0, none⟩) m c]), .val (.pointer (some ⟨W3.heap.size, 2, none⟩)), .val (.slice (some ⟨g, 0, none⟩) m c), .val (.int .i64 (i : Int)), .val (.pointer (some ⟨g, i * 5, none⟩)), .val (.pointer (some ⟨g, i * 5, none⟩)), .val (.int .i64 (u.t : Int)), .val (.tuple #[.agg #[.string (S d.lo.num), .string (S (d.lo.den : Int)), .string (S d.hi.num), .string (S (d.hi.den : Int))], .int .i64 0]), .val (.tuple #[.agg #[.string (S d.lo.num), .string (S (d.lo.den : Int)), .string (S d.hi.num), .string (S (d.hi.den : Int))], .int .i64 0]), .val (.agg #[.string (S d.lo.num), .string (S (d.lo.den : Int)), .string (S d.hi.num), .string (S (d.hi.den : Int))]), .val (.int .i64 0), .say (fresh _ (.cells #[.string ⟨#[]⟩, .string ⟨#[]⟩, .string ⟨#[]⟩, .string ⟨#[]⟩] 29))] [25] (by kernel_rfl) (by kernel_rfl) (by kernel_rfl) rfl ⟨fresh_mono _ _, trivial⟩ (allItems.cons (qi1 fun X h => Fh X (Row.below rh h)) (allItems.cons qi0 (allItems.cons (qi1 fun X h => Fh X (Row.below rh h)) (allItems.cons qi0 (allItems.cons (qif hi) (allItems.cons qi0 (allItems.cons (qi1 fun X h => Fg X (Row.below rg h)) (allItems.cons (qi2 fun X h => DD X _ _ (PAt.below hp h) (he.below (hB.trans (h.mono hB.size)))) (allItems.cons qi0 (allItems.cons qi0 (allItems.cons qi0 (allItems.cons qia trivial)))))))))))) ?_
            rintro W h1
            clear sh ch0 ch1 ch2
            clear sg cg0 cg1 cg2 cg3 cg4
            replace hB := hB.trans (h1.mono hB.size)
            replace rh := Row.below rh h1
            replace rg := Row.below rg h1
            replace hp := PAt.below hp h1
            clear h1
            obtain ⟨sh, ch0, ch1, ch2⟩ := Fh _ rh
            obtain ⟨sg, cg0, cg1, cg2, cg3, cg4⟩ := Fg _ rg
            simp only [setItems, List.setIfInBounds_toArray, List.set_cons_succ, List.set_cons_zero, List.take_succ_cons, List.take_zero, List.drop_succ_cons, List.drop_zero]
            rintro _ ⟨pd, rfl, hd, rd⟩
            replace dh_d := Nat.lt_of_lt_of_le dh_d hd
            replace dg_d := Nat.lt_of_lt_of_le dg_d hd
            replace d0_d := Nat.le_trans d0_d hd
            have Fd : ∀ X, Row X pd (.cells #[.string ⟨#[]⟩, .string ⟨#[]⟩, .string ⟨#[]⟩, .string ⟨#[]⟩] 29) → (pd < X.heap.size ∧ X.cell? ⟨pd, 0, none⟩ = some (.string ⟨#[]⟩) ∧ X.cell? ⟨pd, 1, none⟩ = some (.string ⟨#[]⟩) ∧ X.cell? ⟨pd, 2, none⟩ = some (.string ⟨#[]⟩) ∧ X.cell? ⟨pd, 3, none⟩ = some (.string ⟨#[]⟩) ∧ X.frozen? ⟨pd, 0, none⟩ = false ∧ X.frozen? ⟨pd, 1, none⟩ = false ∧ X.frozen? ⟨pd, 2, none⟩ = false ∧ X.frozen? ⟨pd, 3, none⟩ = false) := fun X h => ⟨h.1, Row.cell_at h 0 rfl, Row.cell_at h 1 rfl, Row.cell_at h 2 rfl, Row.cell_at h 3 rfl, frozen_of_row _ _ 0 _ _ h.2, frozen_of_row _ _ 1 _ _ h.2, frozen_of_row _ _ 2 _ _ h.2, frozen_of_row _ _ 3 _ _ h.2⟩
            obtain ⟨sd, cd0, cd1, cd2, cd3, fd0, fd1, fd2, fd3⟩ := Fd _ rd
            intro _
            go_wp2_with fail
            unfold normalQ
            go_wp2_with fail
            have sB := hB.size
            refine wp_cut (fun X => Below w.heap.size w X ∧ Row X W3.heap.size (.cells #[.string (S r.num), .string (S (r.den : Int)), .slice (some ⟨g, 0, none⟩) m c] 49) ∧ Row X g (.cells cur 53) ∧ Row X pd (.cells #[.string (S d.lo.num), .string (S (d.lo.den : Int)), .string (S d.hi.num), .string (S (d.hi.den : Int))] 29) ∧ PAt X (some ⟨g, 0, none⟩) l) ⟨BW, RWk, RWk, RWk, (by first | with_reducible exact pat_set3 hp rmore NEH | with_reducible exact pat_set2 hp rsum NER | with_reducible exact pat_set2 hp rfast NEH | with_reducible exact pat_set4 hp rd NEI | exact PAt.below hp BW)⟩ ?_
            clear rh
            clear sh ch0 ch1 ch2
            clear rg
            clear sg cg0 cg1 cg2 cg3 cg4
            clear rd
            clear sd cd0 cd1 cd2 cd3 fd0 fd1 fd2 fd3
            clear hB sB hp
            rintro V16 ⟨hB, rh, rg, rd, hp⟩
            obtain ⟨sh, ch0, ch1, ch2⟩ := Fh _ rh
            obtain ⟨sg, cg0, cg1, cg2, cg3, cg4⟩ := Fg _ rg
            clear Fd
            have Fd : ∀ X, Row X pd (.cells #[.string (S d.lo.num), .string (S (d.lo.den : Int)), .string (S d.hi.num), .string (S (d.hi.den : Int))] 29) → (pd < X.heap.size ∧ X.cell? ⟨pd, 0, none⟩ = some (.string (S d.lo.num)) ∧ X.cell? ⟨pd, 1, none⟩ = some (.string (S (d.lo.den : Int))) ∧ X.cell? ⟨pd, 2, none⟩ = some (.string (S d.hi.num)) ∧ X.cell? ⟨pd, 3, none⟩ = some (.string (S (d.hi.den : Int))) ∧ X.frozen? ⟨pd, 0, none⟩ = false ∧ X.frozen? ⟨pd, 1, none⟩ = false ∧ X.frozen? ⟨pd, 2, none⟩ = false ∧ X.frozen? ⟨pd, 3, none⟩ = false) := fun X h => ⟨h.1, Row.cell_at h 0 rfl, Row.cell_at h 1 rfl, Row.cell_at h 2 rfl, Row.cell_at h 3 rfl, frozen_of_row _ _ 0 _ _ h.2, frozen_of_row _ _ 1 _ _ h.2, frozen_of_row _ _ 2 _ _ h.2, frozen_of_row _ _ 3 _ _ h.2⟩
            obtain ⟨sd, cd0, cd1, cd2, cd3, fd0, fd1, fd2, fd3⟩ := Fd _ rd
            refine wp_region_vals [.int .i64 0, .bool false, .bool false, .agg #[.string (S d.lo.num), .string (S (d.lo.den : Int)), .string (S d.hi.num), .string (S (d.hi.den : Int))], .pointer (some ⟨W3.heap.size, 2, none⟩), .slice (some ⟨g, 0, none⟩) m c, .int .i64 (i : Int), .pointer (some ⟨g, i * 5, none⟩), .pointer (some ⟨g, i * 5 + 1, none⟩), .agg #[.string (S u.iv.lo.num), .string (S (u.iv.lo.den : Int)), .string (S u.iv.hi.num), .string (S (u.iv.hi.den : Int))], .bool true, .bool false, .bool false] (by kernel_rfl) (by kernel_rfl) rfl (allVals.cons qv0 (allVals.cons (qvf hi) (allVals.cons qv0 (allVals.cons (qv1 fun X h => Fd X (Row.below rd h)) (allVals.cons qv0 (allVals.cons (qv1 fun X h => Fh X (Row.below rh h)) (allVals.cons qv0 (allVals.cons (qvf hi) (allVals.cons qv0 (allVals.cons (qv1 fun X h => Fg X (Row.below rg h)) (allVals.cons (qv2 fun X h => WD X (he.below (hB.trans (h.mono hB.size)))) (allVals.cons (qvf hi) (allVals.cons (qvf hi) trivial))))))))))))) ?_
            rintro W h1
            clear sh ch0 ch1 ch2
            clear sg cg0 cg1 cg2 cg3 cg4
            clear sd cd0 cd1 cd2 cd3 fd0 fd1 fd2 fd3
            replace hB := hB.trans (h1.mono hB.size)
            replace rh := Row.below rh h1
            replace rg := Row.below rg h1
            replace rd := Row.below rd h1
            replace hp := PAt.below hp h1
            clear h1
            obtain ⟨sh, ch0, ch1, ch2⟩ := Fh _ rh
            obtain ⟨sg, cg0, cg1, cg2, cg3, cg4⟩ := Fg _ rg
            obtain ⟨sd, cd0, cd1, cd2, cd3, fd0, fd1, fd2, fd3⟩ := Fd _ rd
            simp only [setVals, List.setIfInBounds_toArray, List.set_cons_succ, List.set_cons_zero]
            go_wp2
            go_roundw
            case rel => exact ⟨i + 1, by go_num, by omega, (by first | exact PAt.below hp BW), BW, RWh⟩
            case measure => simp [intOf]; omega
          · obtain rfl : m = i := by omega
            obtain ⟨sh, ch0, ch1, ch2⟩ := Fh _ rh
            go_wp2
            go_ret
            exact ⟨rfl, hB⟩
  · replace DOFF := DOFF hx
    clear hx
    go_wp2_with fail
    refine (DOFF _ _ _ hp (he.below hB)).mono ?_
    rintro e W6 ⟨rfl, h1⟩
    clear sbp cbp0 cbp1 cbp2 cbp3
    clear sh ch0 ch1 ch2
    replace hB := hB.trans (h1.mono hB.size)
    replace rbp := Row.below rbp h1
    replace rh := Row.below rh h1
    replace hp := PAt.below hp h1
    clear h1
    obtain ⟨sbp, cbp0, cbp1, cbp2, cbp3⟩ := Fbp _ rbp
    obtain ⟨sh, ch0, ch1, ch2⟩ := Fh _ rh
    go_wp2
    go_ret
    exact ⟨rfl, BW⟩
end Go.Proofs.YtngohpgkceedeaaGreatDoor
