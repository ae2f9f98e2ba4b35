/-
  DriftContradicts: the walk.
-/
import Derived.Test.YtngohpgkceedeaaGreatDoorCDLaw
set_option linter.unusedSimpArgs false
set_option linter.unusedVariables false
namespace Go.Proofs.YtngohpgkceedeaaGreatDoor
open Go Go.RowKit Go.Lib Go.Shelf
attribute [local go_sem] normalQ

/-- A point with a small time and small values, that integers determine. -/
def conPt (y0 y1 y2 y3 : Int) : Pt := ⟨(pk y0 50).toNat, ⟨Rat.divInt (pk y1 40) (1 + pk y3 3), Rat.divInt (pk y1 40 + pk y2 9) (1 + pk y3 3)⟩⟩
structure ConOk (a : Pt) : Prop where
  t : a.t < 50
  ok : a.iv.Ok
  dig : IDig 2 a.iv
  lo0 : 0 ≤ a.iv.lo
  lo39 : a.iv.lo ≤ 39
theorem conPt_ok (y0 y1 y2 y3 : Int) : ConOk (conPt y0 y1 y2 y3) := by
  have a1 := pk_nonneg y0 (n := 50) (by decide); have a2 := pk_lt y0 (n := 50) (by decide); have b1 := pk_nonneg y1 (n := 40) (by decide); have b2 := pk_lt y1 (n := 40) (by decide)
  have c1 := pk_nonneg y2 (n := 9) (by decide); have c2 := pk_lt y2 (n := 9) (by decide); have d1 := pk_nonneg y3 (n := 3) (by decide); have d2 := pk_lt y3 (n := 3) (by decide)
  refine ⟨?_, ?_, ⟨?_, ?_⟩, ?_, ?_⟩
  · show (pk y0 50).toNat < 50; omega
  · exact divInt_mn (by omega) (by omega)
  · exact QDig.ofInt (by omega) (by unfold Dig; omega) (by unfold Dig; omega)
  · exact QDig.ofInt (by omega) (by unfold Dig; omega) (by unfold Dig; omega)
  · exact divInt_nn (by omega) b1
  · have := divInt_small (n := pk y1 40) (d := 1 + pk y3 3) (m := 39) (by omega) b1 (by omega)
    exact_mod_cast this
theorem con_hist {r : Rat} (hr : 0 ≤ r) (hd : QDig 40 r) {a b : Pt} (ha : ConOk a) (hb : ConOk b) : Hist.Ok ⟨r, []⟩ ∧ Hist.Ok ⟨r, [a]⟩ ∧ Hist.Ok ⟨r, ins [a] b⟩ := by
  have h0 : Hist.Ok ⟨r, []⟩ := ⟨hr, hd, by simp, by simp, by simp, by simp⟩
  have ia : a.iv.Ok ∧ IDig 40 a.iv := ⟨ha.ok, ha.dig.1.mono (by omega), ha.dig.2.mono (by omega)⟩
  have ib : b.iv.Ok ∧ IDig 40 b.iv := ⟨hb.ok, hb.dig.1.mono (by omega), hb.dig.2.mono (by omega)⟩
  have h1 : Hist.Ok ⟨r, [a]⟩ := ⟨hr, hd, by simp, by simp; have := ha.t; omega, by simpa using ia, by simp⟩
  exact ⟨h0, h1, ins_ok h1 (by simp) (by have := hb.t; omega) ib⟩
/-- A rate that bridges each gap. -/
theorem con_bridge {a b : Pt} (ha : ConOk a) (hb : ConOk b) (hne : a.t ≠ b.t) : ¬ contra (Rat.divInt 50 1) a b := by
  have h1 : (1 : Rat) ≤ ((dist b.t a.t : Nat) : Rat) := by exact_mod_cast (show 1 ≤ dist b.t a.t by unfold dist; omega)
  have h5 : Rat.divInt 50 1 = 50 := by decide +kernel
  have a1 := ha.ok; have b1 := hb.ok; have a2 := ha.lo0; have b2 := hb.lo0; have a3 := ha.lo39; have b3 := hb.lo39
  unfold Iv.Ok at a1 b1
  unfold contra far
  rw [h5]
  have h6 : (50 : Rat) * 1 ≤ 50 * ((dist b.t a.t : Nat) : Rat) := Rat.mul_le_mul_of_nonneg_left h1 (by decide +kernel)
  rintro (h | h) <;> grind
set_option maxRecDepth 100000 in
set_option maxHeartbeats 16000000 in
theorem driftContradicts_any (y0 y1 y2 y3 z0 z1 z2 z3 r0 r1 : Int) (hy : IsInt y0 ∧ IsInt y1 ∧ IsInt y2 ∧ IsInt y3) (hz : IsInt z0 ∧ IsInt z1 ∧ IsInt z2 ∧ IsInt z3) (hr : IsInt r0 ∧ IsInt r1) (w : World) (he : Env w) :
    Calls Tryz.prog 7 #[.agg #[.int .i64 y0, .int .i64 y1, .int .i64 y2, .int .i64 y3], .agg #[.int .i64 z0, .int .i64 z1, .int .i64 z2, .int .i64 z3], .agg #[.int .i64 r0, .int .i64 r1]] w (BoolOk true w) := by
  have hB : Below w.heap.size w w := Below.refl _ _
  have NER : (26 : TypeId) ≠ 53 := by decide
  have NEH : (49 : TypeId) ≠ 53 := by decide
  have MS := fun W (H : Env W) => sane12 W H
  have Ta := fun W => pickL12 y0 50 hy.1 (by decide) W
  have Ka1 := fun W => pickL12 y1 40 hy.2.1 (by decide) W
  have Ka2 := fun W => pickL12 y2 9 hy.2.2.1 (by decide) W
  have Ka3 := fun W => pickL12 y3 3 hy.2.2.2 (by decide) W
  have aa1 := pk_nonneg y0 (n := 50) (by decide)
  have ab1 := pk_nonneg y1 (n := 40) (by decide)
  have ab2 := pk_lt y1 (n := 40) (by decide)
  have ac1 := pk_nonneg y2 (n := 9) (by decide)
  have ac2 := pk_lt y2 (n := 9) (by decide)
  have ad1 := pk_nonneg y3 (n := 3) (by decide)
  have ad2 := pk_lt y3 (n := 3) (by decide)
  have MIa := fun W (H : Env W) => linterval (n := pk y1 40) (m := pk y1 40 + pk y2 9) (d := 1 + pk y3 3) ⟨by omega, by omega⟩ ⟨by omega, by omega⟩ ⟨by omega, by omega⟩ (by omega) W H
  obtain ⟨a, ea⟩ : ∃ a, a = conPt y0 y1 y2 y3 := ⟨_, rfl⟩
  have oa := conPt_ok y0 y1 y2 y3
  rw [← ea] at oa
  have fa : pk y0 50 = (a.t : Int) := by rw [ea]; show pk y0 50 = (((pk y0 50).toNat : Nat) : Int); omega
  rw [fa] at Ta
  have ga : (⟨Rat.divInt (pk y1 40) (1 + pk y3 3), Rat.divInt (pk y1 40 + pk y2 9) (1 + pk y3 3)⟩ : Iv) = a.iv := by rw [ea]; rfl
  rw [ga] at MIa
  unfold I at MIa
  have hwa : IntKind.i64.wrap (1 + pk y3 3) = 1 + pk y3 3 := by rw [IntKind.wrap_i64]; omega
  have hva : IntKind.i64.wrap (pk y1 40 + pk y2 9) = pk y1 40 + pk y2 9 := by rw [IntKind.wrap_i64]; omega
  generalize pk y1 40 = ka1 at *
  generalize pk y2 9 = ka2 at *
  generalize pk y3 3 = ka3 at *
  clear ea fa ga aa1 ab1 ab2 ac1 ac2 ad1 ad2 hy
  have Tb := fun W => pickL12 z0 50 hz.1 (by decide) W
  have Kb1 := fun W => pickL12 z1 40 hz.2.1 (by decide) W
  have Kb2 := fun W => pickL12 z2 9 hz.2.2.1 (by decide) W
  have Kb3 := fun W => pickL12 z3 3 hz.2.2.2 (by decide) W
  have ba1 := pk_nonneg z0 (n := 50) (by decide)
  have bb1 := pk_nonneg z1 (n := 40) (by decide)
  have bb2 := pk_lt z1 (n := 40) (by decide)
  have bc1 := pk_nonneg z2 (n := 9) (by decide)
  have bc2 := pk_lt z2 (n := 9) (by decide)
  have bd1 := pk_nonneg z3 (n := 3) (by decide)
  have bd2 := pk_lt z3 (n := 3) (by decide)
  have MIb := fun W (H : Env W) => linterval (n := pk z1 40) (m := pk z1 40 + pk z2 9) (d := 1 + pk z3 3) ⟨by omega, by omega⟩ ⟨by omega, by omega⟩ ⟨by omega, by omega⟩ (by omega) W H
  obtain ⟨b, eb⟩ : ∃ b, b = conPt z0 z1 z2 z3 := ⟨_, rfl⟩
  have ob := conPt_ok z0 z1 z2 z3
  rw [← eb] at ob
  have fb : pk z0 50 = (b.t : Int) := by rw [eb]; show pk z0 50 = (((pk z0 50).toNat : Nat) : Int); omega
  rw [fb] at Tb
  have gb : (⟨Rat.divInt (pk z1 40) (1 + pk z3 3), Rat.divInt (pk z1 40 + pk z2 9) (1 + pk z3 3)⟩ : Iv) = b.iv := by rw [eb]; rfl
  rw [gb] at MIb
  unfold I at MIb
  have hwb : IntKind.i64.wrap (1 + pk z3 3) = 1 + pk z3 3 := by rw [IntKind.wrap_i64]; omega
  have hvb : IntKind.i64.wrap (pk z1 40 + pk z2 9) = pk z1 40 + pk z2 9 := by rw [IntKind.wrap_i64]; omega
  generalize pk z1 40 = kb1 at *
  generalize pk z2 9 = kb2 at *
  generalize pk z3 3 = kb3 at *
  clear eb fb gb ba1 bb1 bb2 bc1 bc2 bd1 bd2 hz
  have R0 := fun W => pickL12 r0 9 hr.1 (by decide) W
  have R1 := fun W => pickL12 r1 9 hr.2 (by decide) W
  have ra := pk_nonneg r0 (n := 9) (by decide)
  have rb := pk_lt r0 (n := 9) (by decide)
  have rc := pk_nonneg r1 (n := 9) (by decide)
  have rd := pk_lt r1 (n := 9) (by decide)
  have MR := fun W (H : Env W) => lof (n := pk r0 9) (d := 1 + pk r1 9) ⟨by omega, by omega⟩ ⟨by omega, by omega⟩ (by omega) W H
  have hm := madeRate_ok r0 r1
  rw [show Rat.divInt (pk r0 9) (1 + pk r1 9) = madeRate r0 r1 from rfl] at MR
  generalize madeRate r0 r1 = r at *
  have hwr : IntKind.i64.wrap (1 + pk r1 9) = 1 + pk r1 9 := by rw [IntKind.wrap_i64]; omega
  generalize pk r0 9 = kr0 at *
  generalize pk r1 9 = kr1 at *
  clear ra rb rc rd hr
  obtain ⟨ok0, ok1, ok2⟩ := con_hist hm.1 (hm.2.mono (by omega)) oa ob
  obtain ⟨_, ok3, ok4⟩ := con_hist hm.1 (hm.2.mono (by omega)) ob oa
  obtain ⟨_, _, ok5⟩ := con_hist (r := Rat.divInt 50 1) (by decide +kernel) (QDig.mono (j := 2) (by unfold QDig Dig; decide +kernel) (by omega)) oa ob
  have MF := fun W (H : Env W) => lof (n := 50) (d := 1) (by decide) (by decide) (by decide) W H
  have hbr : a.t ≠ b.t → (cons ⟨Rat.divInt 50 1, ins [a] b⟩).length = 0 := fun h => by rw [cons_ins_two, if_neg (con_bridge oa ob h)]
  have HBR := Lib.hid hbr
  have hcf : Free ⟨r, ins [a] b⟩ ↔ ¬ contra r a b := free_ins_two hm.1 oa.ok ob.ok
  have hn2 := cons_ins_two r a b
  have hn4 := cons_ins_two r b a
  have MG := fun W (H : Env W) => qsub (j := 2) (k := 2) ob.dig.1 oa.dig.2 (by omega) W H
  have MH := fun W (H : Env W) => qsub (j := 2) (k := 2) oa.dig.1 ob.dig.2 (by omega) W H
  have dG : QDig 5 (b.iv.lo - a.iv.hi) := QDig.sub (j := 2) (k := 2) ob.dig.1 oa.dig.2
  have dH : QDig 5 (a.iv.lo - b.iv.hi) := QDig.sub (j := 2) (k := 2) oa.dig.1 ob.dig.2
  have MCM := fun W (H : Env W) => qcompare (a.iv.lo - b.iv.hi) (b.iv.lo - a.iv.hi) (dH.mono (by omega)) (dG.mono (by omega)) W H
  obtain ⟨gm, hgm⟩ : ∃ g, g = if 0 < cmpQ (a.iv.lo - b.iv.hi) (b.iv.lo - a.iv.hi) then a.iv.lo - b.iv.hi else b.iv.lo - a.iv.hi := ⟨_, rfl⟩
  have hcg := contra_gap (r := r) gm hgm
  have dM : QDig 5 gm := by rw [hgm]; split <;> assumption
  have hta := oa.t
  have htb := ob.t
  have hdd : dist a.t b.t ≤ 50 := by unfold dist; omega
  have MO := fun W (H : Env W) => lof (n := ((dist a.t b.t : Nat) : Int)) (d := 1) ⟨by omega, by omega⟩ (by decide) (by decide) W H
  have dO : QDig 2 (Rat.divInt ((dist a.t b.t : Nat) : Int) 1) := QDig.ofInt (by omega) (by unfold Dig; omega) (by unfold Dig; omega)
  have MM := fun W (H : Env W) => qmul (j := 2) (k := 2) hm.2 dO (by omega) W H
  rw [far_divInt] at MM
  have dF : QDig 4 (far r (dist a.t b.t)) := by rw [← far_divInt]; exact QDig.mul (j := 2) (k := 2) hm.2 dO
  have MX := fun W (H : Env W) => qcompare gm (far r (dist a.t b.t)) (dM.mono (by omega)) (dF.mono (by omega)) W H
  have hmx := dist_max a.t b.t
  have hs1 : IntKind.i64.wrap ((a.t : Int) - (b.t : Int)) = (a.t : Int) - (b.t : Int) := by rw [IntKind.wrap_i64]; omega
  have hs2 : IntKind.i64.wrap ((b.t : Int) - (a.t : Int)) = (b.t : Int) - (a.t : Int) := by rw [IntKind.wrap_i64]; omega
  have A1 := fun W (H : Env W) => dadd_n (ins_nil a) rfl ok0 ok1 none 0 0 rfl W (.inl ⟨rfl, .inl rfl⟩) H
  have A3 := fun W (H : Env W) => dadd_n (ins_nil b) rfl ok0 ok3 none 0 0 rfl W (.inl ⟨rfl, .inl rfl⟩) H
  have A2 := fun W p c (hp : PAt W p [a]) (H : Env W) => dadd_n (n := 2) rfl (by rw [ins_length]; rfl) ok1 ok2 p 1 c rfl W hp H
  have A4 := fun W p c (hp : PAt W p [b]) (H : Env W) => dadd_n (n := 2) rfl (by rw [ins_length]; rfl) ok3 ok4 p 1 c rfl W hp H
  have l2 : (ins [a] b).length = 2 := by rw [ins_length]; rfl
  have l4 : (ins [b] a).length = 2 := by rw [ins_length]; rfl
  have DA := fun (h : ¬ contra r a b) W p c (hp : PAt W p (ins [a] b)) (H : Env W) => dat_free ok2 (hcf.2 h) (t := a.t) (by omega) p 2 c l2 (by decide) W hp H
  have DB := fun (h : contra r a b) W p c (hp : PAt W p (ins [a] b)) (H : Env W) => dat_bad ok2 (fun hf => hcf.1 hf h) (t := a.t) (by omega) p 2 c l2 (by decide) W hp H
  unfold AtErr at DB
  have C2 := fun n (h : (cons ⟨r, ins [a] b⟩).length = n) W p c (hp : PAt W p (ins [a] b)) (H : Env W) => dcons_say h ok2 p 2 c l2 W hp H
  have C4 := fun n (h : (cons ⟨r, ins [b] a⟩).length = n) W p c (hp : PAt W p (ins [b] a)) (H : Env W) => dcons_say h ok4 p 2 c l4 W hp H
  have C5 := fun (h : a.t ≠ b.t) W p c (hp : PAt W p (ins [a] b)) (H : Env W) => dcons_say (hbr h) ok5 p 2 c l2 W hp H
  unfold BoolOk at MS
  unfold QOk at MG MH MM
  unfold CmpOk at MCM MX
  unfold Q at *
  have HDD : Hid (0 ≤ ((dist a.t b.t : Nat) : Int)) := Lib.hid (by omega)
  generalize hl2 : ins [a] b = la at *
  generalize hl4 : ins [b] a = lb at *
  have HC : Hid (contra r a b ↔ 0 < cmpQ gm (far r (dist a.t b.t))) := Lib.hid hcg
  have HN2 := Lib.hid hn2
  have HN4 := Lib.hid hn4
  have HGM := Lib.hid hgm
  have hcc : contra r b a ↔ contra r a b := contra_comm
  have HCC := Lib.hid hcc
  generalize Rat.divInt ((dist a.t b.t : Nat) : Int) 1 = fd at *
  generalize far r (dist a.t b.t) = dm at *
  generalize ((dist a.t b.t : Nat) : Int) = dd at *
  generalize a.iv.lo - b.iv.hi = g2 at *
  generalize b.iv.lo - a.iv.hi = g1 at *
  generalize Rat.divInt 50 1 = fr at *
  clear hgm hcg hn2 hn4 hcc hl2 hl4 hbr hdd hta htb hm ok0 ok1 ok2 ok3 ok4 ok5 oa ob hcf dG dH dM dO dF l2 l4
  go_enter Tryz.func7, Tryz.ntmps7
  go_wp2_with fail
  have sB := hB.size
  refine world_cut (fun X => Below w.heap.size w X ∧ Row X w.heap.size (.cells #[.int .i64 y0, .int .i64 y1, .int .i64 y2, .int .i64 y3] 22) ∧ Row X (w.heap.size + 1) (.cells #[.int .i64 z0, .int .i64 z1, .int .i64 z2, .int .i64 z3] 22) ∧ Row X (w.heap.size + 1 + 1) (.cells #[.int .i64 r0, .int .i64 r1] 50)) ⟨BW, RWk, RWk, RWk⟩ ?_
  clear hB sB
  rintro V1 ⟨hB, rp, rq, rrt⟩
  have Fp : ∀ X, Row X w.heap.size (.cells #[.int .i64 y0, .int .i64 y1, .int .i64 y2, .int .i64 y3] 22) → (w.heap.size < X.heap.size ∧ X.cell? ⟨w.heap.size, 0, none⟩ = some (.int .i64 y0) ∧ X.cell? ⟨w.heap.size, 1, none⟩ = some (.int .i64 y1) ∧ X.cell? ⟨w.heap.size, 2, none⟩ = some (.int .i64 y2) ∧ X.cell? ⟨w.heap.size, 3, none⟩ = some (.int .i64 y3)) := fun X h => ⟨h.1, Row.cell_at h 0 rfl, Row.cell_at h 1 rfl, Row.cell_at h 2 rfl, Row.cell_at h 3 rfl⟩
  obtain ⟨sp, cp0, cp1, cp2, cp3⟩ := Fp _ rp
  have Fq : ∀ X, Row X (w.heap.size + 1) (.cells #[.int .i64 z0, .int .i64 z1, .int .i64 z2, .int .i64 z3] 22) → (w.heap.size + 1 < X.heap.size ∧ X.cell? ⟨w.heap.size + 1, 0, none⟩ = some (.int .i64 z0) ∧ X.cell? ⟨w.heap.size + 1, 1, none⟩ = some (.int .i64 z1) ∧ X.cell? ⟨w.heap.size + 1, 2, none⟩ = some (.int .i64 z2) ∧ X.cell? ⟨w.heap.size + 1, 3, none⟩ = some (.int .i64 z3)) := fun X h => ⟨h.1, Row.cell_at h 0 rfl, Row.cell_at h 1 rfl, Row.cell_at h 2 rfl, Row.cell_at h 3 rfl⟩
  obtain ⟨sq, cq0, cq1, cq2, cq3⟩ := Fq _ rq
  have Frt : ∀ X, Row X (w.heap.size + 1 + 1) (.cells #[.int .i64 r0, .int .i64 r1] 50) → (w.heap.size + 1 + 1 < X.heap.size ∧ X.cell? ⟨w.heap.size + 1 + 1, 0, none⟩ = some (.int .i64 r0) ∧ X.cell? ⟨w.heap.size + 1 + 1, 1, none⟩ = some (.int .i64 r1)) := fun X h => ⟨h.1, Row.cell_at h 0 rfl, Row.cell_at h 1 rfl⟩
  obtain ⟨srt, crt0, crt1⟩ := Frt _ rrt
  refine (MS _ (he.below hB)).mono ?_
  rintro e W2 ⟨rfl, h1⟩
  clear sp cp0 cp1 cp2 cp3
  clear sq cq0 cq1 cq2 cq3
  clear srt crt0 crt1
  replace hB := hB.trans (h1.mono hB.size)
  replace rp := Row.below rp h1
  replace rq := Row.below rq h1
  replace rrt := Row.below rrt h1
  clear h1
  obtain ⟨sp, cp0, cp1, cp2, cp3⟩ := Fp _ rp
  obtain ⟨sq, cq0, cq1, cq2, cq3⟩ := Fq _ rq
  obtain ⟨srt, crt0, crt1⟩ := Frt _ rrt
  go_wp2_with fail
  have dp_pa := rp.1
  have dq_pa := rq.1
  have drt_pa := rrt.1
  have d0_pa := hB.size
  refine wp_region_items 20 [.val (.pointer (some ⟨w.heap.size, 0, none⟩)), .val (.int .i64 y0), .val (.int .i64 (a.t : Int)), .val (.pointer (some ⟨w.heap.size, 1, none⟩)), .val (.int .i64 y1), .val (.int .i64 ka1), .val (.pointer (some ⟨w.heap.size, 1, none⟩)), .val (.int .i64 y1), .val (.int .i64 ka1), .val (.pointer (some ⟨w.heap.size, 2, none⟩)), .val (.int .i64 y2), .val (.int .i64 ka2), .val (.int .i64 (ka1 + ka2)), .val (.pointer (some ⟨w.heap.size, 3, none⟩)), .val (.int .i64 y3), .val (.int .i64 ka3), .val (.int .i64 (1 + ka3)), .val (.agg #[.string (S a.iv.lo.num), .string (S (a.iv.lo.den : Int)), .string (S a.iv.hi.num), .string (S (a.iv.hi.den : Int))]), .val (.agg #[.int .i64 (a.t : Int), .string (S a.iv.lo.num), .string (S (a.iv.lo.den : Int)), .string (S a.iv.hi.num), .string (S (a.iv.hi.den : Int))]), .say (fresh _ (.cells #[.int .i64 0, .string ⟨#[]⟩, .string ⟨#[]⟩, .string ⟨#[]⟩, .string ⟨#[]⟩] 53))] (by kernel_rfl) (by kernel_rfl) ⟨fresh_mono _ _, trivial⟩ (allItems.cons qi0 (allItems.cons (qi1 fun X h => Fp X (Row.below rp h)) (allItems.cons (qi2 fun X h => Ta X) (allItems.cons qi0 (allItems.cons (qi1 fun X h => Fp X (Row.below rp h)) (allItems.cons (qi2 fun X h => Ka1 X) (allItems.cons qi0 (allItems.cons (qi1 fun X h => Fp X (Row.below rp h)) (allItems.cons (qi2 fun X h => Ka1 X) (allItems.cons qi0 (allItems.cons (qi1 fun X h => Fp X (Row.below rp h)) (allItems.cons (qi2 fun X h => Ka2 X) (allItems.cons (qif hva) (allItems.cons qi0 (allItems.cons (qi1 fun X h => Fp X (Row.below rp h)) (allItems.cons (qi2 fun X h => Ka3 X) (allItems.cons (qif hwa) (allItems.cons (qi2 fun X h => MIa X (he.below (hB.trans (h.mono hB.size)))) (allItems.cons qi0 (allItems.cons qia trivial)))))))))))))))))))) ?_
  rintro W h1
  clear sp cp0 cp1 cp2 cp3
  clear sq cq0 cq1 cq2 cq3
  clear srt crt0 crt1
  replace hB := hB.trans (h1.mono hB.size)
  replace rp := Row.below rp h1
  replace rq := Row.below rq h1
  replace rrt := Row.below rrt h1
  clear h1
  obtain ⟨sp, cp0, cp1, cp2, cp3⟩ := Fp _ rp
  obtain ⟨sq, cq0, cq1, cq2, cq3⟩ := Fq _ rq
  obtain ⟨srt, crt0, crt1⟩ := Frt _ rrt
  simp only [setItems, List.setIfInBounds_toArray, List.set_cons_succ, List.set_cons_zero, List.take_succ_cons, List.take_zero, List.drop_succ_cons, List.drop_zero]
  rintro _ ⟨ppa, rfl, hpa, rpa⟩
  replace dp_pa := Nat.lt_of_lt_of_le dp_pa hpa
  replace dq_pa := Nat.lt_of_lt_of_le dq_pa hpa
  replace drt_pa := Nat.lt_of_lt_of_le drt_pa hpa
  replace d0_pa := Nat.le_trans d0_pa hpa
  have Fpa : ∀ X, Row X ppa (.cells #[.int .i64 0, .string ⟨#[]⟩, .string ⟨#[]⟩, .string ⟨#[]⟩, .string ⟨#[]⟩] 53) → (ppa < X.heap.size ∧ X.cell? ⟨ppa, 0, none⟩ = some (.int .i64 0) ∧ X.cell? ⟨ppa, 1, none⟩ = some (.string ⟨#[]⟩) ∧ X.cell? ⟨ppa, 2, none⟩ = some (.string ⟨#[]⟩) ∧ X.cell? ⟨ppa, 3, none⟩ = some (.string ⟨#[]⟩) ∧ X.cell? ⟨ppa, 4, none⟩ = some (.string ⟨#[]⟩) ∧ X.frozen? ⟨ppa, 0, none⟩ = false ∧ X.frozen? ⟨ppa, 1, none⟩ = false ∧ X.frozen? ⟨ppa, 2, none⟩ = false ∧ X.frozen? ⟨ppa, 3, none⟩ = false ∧ X.frozen? ⟨ppa, 4, none⟩ = false) := fun X h => ⟨h.1, Row.cell_at h 0 rfl, Row.cell_at h 1 rfl, Row.cell_at h 2 rfl, Row.cell_at h 3 rfl, Row.cell_at h 4 rfl, frozen_of_row _ _ 0 _ _ h.2, frozen_of_row _ _ 1 _ _ h.2, frozen_of_row _ _ 2 _ _ h.2, frozen_of_row _ _ 3 _ _ h.2, frozen_of_row _ _ 4 _ _ h.2⟩
  obtain ⟨spa, cpa0, cpa1, cpa2, cpa3, cpa4, fpa0, fpa1, fpa2, fpa3, fpa4⟩ := Fpa _ rpa
  go_wp2_with fail
  clear Fp
  have sB := hB.size
  refine wp_cut (fun X => Below w.heap.size w X ∧ Row X (w.heap.size + 1) (.cells #[.int .i64 z0, .int .i64 z1, .int .i64 z2, .int .i64 z3] 22) ∧ Row X (w.heap.size + 1 + 1) (.cells #[.int .i64 r0, .int .i64 r1] 50) ∧ Row X ppa (.cells #[.int .i64 (a.t : Int), .string (S a.iv.lo.num), .string (S (a.iv.lo.den : Int)), .string (S a.iv.hi.num), .string (S (a.iv.hi.den : Int))] 53)) ⟨BW, RWk, RWk, RWk⟩ ?_
  clear rp
  clear sp cp0 cp1 cp2 cp3
  clear rq
  clear sq cq0 cq1 cq2 cq3
  clear rrt
  clear srt crt0 crt1
  clear rpa
  clear spa cpa0 cpa1 cpa2 cpa3 cpa4 fpa0 fpa1 fpa2 fpa3 fpa4
  clear hB sB
  rintro V3 ⟨hB, rq, rrt, rpa⟩
  obtain ⟨sq, cq0, cq1, cq2, cq3⟩ := Fq _ rq
  obtain ⟨srt, crt0, crt1⟩ := Frt _ rrt
  clear Fpa
  have Fpa : ∀ X, Row X ppa (.cells #[.int .i64 (a.t : Int), .string (S a.iv.lo.num), .string (S (a.iv.lo.den : Int)), .string (S a.iv.hi.num), .string (S (a.iv.hi.den : Int))] 53) → (ppa < X.heap.size ∧ X.cell? ⟨ppa, 0, none⟩ = some (.int .i64 (a.t : Int)) ∧ X.cell? ⟨ppa, 1, none⟩ = some (.string (S a.iv.lo.num)) ∧ X.cell? ⟨ppa, 2, none⟩ = some (.string (S (a.iv.lo.den : Int))) ∧ X.cell? ⟨ppa, 3, none⟩ = some (.string (S a.iv.hi.num)) ∧ X.cell? ⟨ppa, 4, none⟩ = some (.string (S (a.iv.hi.den : Int))) ∧ X.frozen? ⟨ppa, 0, none⟩ = false ∧ X.frozen? ⟨ppa, 1, none⟩ = false ∧ X.frozen? ⟨ppa, 2, none⟩ = false ∧ X.frozen? ⟨ppa, 3, none⟩ = false ∧ X.frozen? ⟨ppa, 4, none⟩ = false) := fun X h => ⟨h.1, Row.cell_at h 0 rfl, Row.cell_at h 1 rfl, Row.cell_at h 2 rfl, Row.cell_at h 3 rfl, Row.cell_at h 4 rfl, frozen_of_row _ _ 0 _ _ h.2, frozen_of_row _ _ 1 _ _ h.2, frozen_of_row _ _ 2 _ _ h.2, frozen_of_row _ _ 3 _ _ h.2, frozen_of_row _ _ 4 _ _ h.2⟩
  obtain ⟨spa, cpa0, cpa1, cpa2, cpa3, cpa4, fpa0, fpa1, fpa2, fpa3, fpa4⟩ := Fpa _ rpa
  have dq_pb := rq.1
  have drt_pb := rrt.1
  have dpa_pb := rpa.1
  have d0_pb := hB.size
  refine wp_region_items 20 [.val (.pointer (some ⟨w.heap.size + 1, 0, none⟩)), .val (.int .i64 z0), .val (.int .i64 (b.t : Int)), .val (.pointer (some ⟨w.heap.size + 1, 1, none⟩)), .val (.int .i64 z1), .val (.int .i64 kb1), .val (.pointer (some ⟨w.heap.size + 1, 1, none⟩)), .val (.int .i64 z1), .val (.int .i64 kb1), .val (.pointer (some ⟨w.heap.size + 1, 2, none⟩)), .val (.int .i64 z2), .val (.int .i64 kb2), .val (.int .i64 (kb1 + kb2)), .val (.pointer (some ⟨w.heap.size + 1, 3, none⟩)), .val (.int .i64 z3), .val (.int .i64 kb3), .val (.int .i64 (1 + kb3)), .val (.agg #[.string (S b.iv.lo.num), .string (S (b.iv.lo.den : Int)), .string (S b.iv.hi.num), .string (S (b.iv.hi.den : Int))]), .val (.agg #[.int .i64 (b.t : Int), .string (S b.iv.lo.num), .string (S (b.iv.lo.den : Int)), .string (S b.iv.hi.num), .string (S (b.iv.hi.den : Int))]), .say (fresh _ (.cells #[.int .i64 0, .string ⟨#[]⟩, .string ⟨#[]⟩, .string ⟨#[]⟩, .string ⟨#[]⟩] 53))] (by kernel_rfl) (by kernel_rfl) ⟨fresh_mono _ _, trivial⟩ (allItems.cons qi0 (allItems.cons (qi1 fun X h => Fq X (Row.below rq h)) (allItems.cons (qi2 fun X h => Tb X) (allItems.cons qi0 (allItems.cons (qi1 fun X h => Fq X (Row.below rq h)) (allItems.cons (qi2 fun X h => Kb1 X) (allItems.cons qi0 (allItems.cons (qi1 fun X h => Fq X (Row.below rq h)) (allItems.cons (qi2 fun X h => Kb1 X) (allItems.cons qi0 (allItems.cons (qi1 fun X h => Fq X (Row.below rq h)) (allItems.cons (qi2 fun X h => Kb2 X) (allItems.cons (qif hvb) (allItems.cons qi0 (allItems.cons (qi1 fun X h => Fq X (Row.below rq h)) (allItems.cons (qi2 fun X h => Kb3 X) (allItems.cons (qif hwb) (allItems.cons (qi2 fun X h => MIb X (he.below (hB.trans (h.mono hB.size)))) (allItems.cons qi0 (allItems.cons qia trivial)))))))))))))))))))) ?_
  rintro W h1
  clear sq cq0 cq1 cq2 cq3
  clear srt crt0 crt1
  clear spa cpa0 cpa1 cpa2 cpa3 cpa4 fpa0 fpa1 fpa2 fpa3 fpa4
  replace hB := hB.trans (h1.mono hB.size)
  replace rq := Row.below rq h1
  replace rrt := Row.below rrt h1
  replace rpa := Row.below rpa h1
  clear h1
  obtain ⟨sq, cq0, cq1, cq2, cq3⟩ := Fq _ rq
  obtain ⟨srt, crt0, crt1⟩ := Frt _ rrt
  obtain ⟨spa, cpa0, cpa1, cpa2, cpa3, cpa4, fpa0, fpa1, fpa2, fpa3, fpa4⟩ := Fpa _ rpa
  simp only [setItems, List.setIfInBounds_toArray, List.set_cons_succ, List.set_cons_zero, List.take_succ_cons, List.take_zero, List.drop_succ_cons, List.drop_zero]
  rintro _ ⟨ppb, rfl, hpb, rpb⟩
  replace dq_pb := Nat.lt_of_lt_of_le dq_pb hpb
  replace drt_pb := Nat.lt_of_lt_of_le drt_pb hpb
  replace dpa_pb := Nat.lt_of_lt_of_le dpa_pb hpb
  replace d0_pb := Nat.le_trans d0_pb hpb
  have Fpb : ∀ X, Row X ppb (.cells #[.int .i64 0, .string ⟨#[]⟩, .string ⟨#[]⟩, .string ⟨#[]⟩, .string ⟨#[]⟩] 53) → (ppb < X.heap.size ∧ X.cell? ⟨ppb, 0, none⟩ = some (.int .i64 0) ∧ X.cell? ⟨ppb, 1, none⟩ = some (.string ⟨#[]⟩) ∧ X.cell? ⟨ppb, 2, none⟩ = some (.string ⟨#[]⟩) ∧ X.cell? ⟨ppb, 3, none⟩ = some (.string ⟨#[]⟩) ∧ X.cell? ⟨ppb, 4, none⟩ = some (.string ⟨#[]⟩) ∧ X.frozen? ⟨ppb, 0, none⟩ = false ∧ X.frozen? ⟨ppb, 1, none⟩ = false ∧ X.frozen? ⟨ppb, 2, none⟩ = false ∧ X.frozen? ⟨ppb, 3, none⟩ = false ∧ X.frozen? ⟨ppb, 4, none⟩ = false) := fun X h => ⟨h.1, Row.cell_at h 0 rfl, Row.cell_at h 1 rfl, Row.cell_at h 2 rfl, Row.cell_at h 3 rfl, Row.cell_at h 4 rfl, frozen_of_row _ _ 0 _ _ h.2, frozen_of_row _ _ 1 _ _ h.2, frozen_of_row _ _ 2 _ _ h.2, frozen_of_row _ _ 3 _ _ h.2, frozen_of_row _ _ 4 _ _ h.2⟩
  obtain ⟨spb, cpb0, cpb1, cpb2, cpb3, cpb4, fpb0, fpb1, fpb2, fpb3, fpb4⟩ := Fpb _ rpb
  go_wp2_with fail
  clear Fq
  have sB := hB.size
  refine wp_cut (fun X => Below w.heap.size w X ∧ Row X (w.heap.size + 1 + 1) (.cells #[.int .i64 r0, .int .i64 r1] 50) ∧ Row X ppa (.cells #[.int .i64 (a.t : Int), .string (S a.iv.lo.num), .string (S (a.iv.lo.den : Int)), .string (S a.iv.hi.num), .string (S (a.iv.hi.den : Int))] 53) ∧ Row X ppb (.cells #[.int .i64 (b.t : Int), .string (S b.iv.lo.num), .string (S (b.iv.lo.den : Int)), .string (S b.iv.hi.num), .string (S (b.iv.hi.den : Int))] 53)) ⟨BW, RWk, RWk, RWk⟩ ?_
  clear rq
  clear sq cq0 cq1 cq2 cq3
  clear rrt
  clear srt crt0 crt1
  clear rpa
  clear spa cpa0 cpa1 cpa2 cpa3 cpa4 fpa0 fpa1 fpa2 fpa3 fpa4
  clear rpb
  clear spb cpb0 cpb1 cpb2 cpb3 cpb4 fpb0 fpb1 fpb2 fpb3 fpb4
  clear hB sB
  rintro V4 ⟨hB, rrt, rpa, rpb⟩
  obtain ⟨srt, crt0, crt1⟩ := Frt _ rrt
  obtain ⟨spa, cpa0, cpa1, cpa2, cpa3, cpa4, fpa0, fpa1, fpa2, fpa3, fpa4⟩ := Fpa _ rpa
  clear Fpb
  have Fpb : ∀ X, Row X ppb (.cells #[.int .i64 (b.t : Int), .string (S b.iv.lo.num), .string (S (b.iv.lo.den : Int)), .string (S b.iv.hi.num), .string (S (b.iv.hi.den : Int))] 53) → (ppb < X.heap.size ∧ X.cell? ⟨ppb, 0, none⟩ = some (.int .i64 (b.t : Int)) ∧ X.cell? ⟨ppb, 1, none⟩ = some (.string (S b.iv.lo.num)) ∧ X.cell? ⟨ppb, 2, none⟩ = some (.string (S (b.iv.lo.den : Int))) ∧ X.cell? ⟨ppb, 3, none⟩ = some (.string (S b.iv.hi.num)) ∧ X.cell? ⟨ppb, 4, none⟩ = some (.string (S (b.iv.hi.den : Int))) ∧ X.frozen? ⟨ppb, 0, none⟩ = false ∧ X.frozen? ⟨ppb, 1, none⟩ = false ∧ X.frozen? ⟨ppb, 2, none⟩ = false ∧ X.frozen? ⟨ppb, 3, none⟩ = false ∧ X.frozen? ⟨ppb, 4, none⟩ = false) := fun X h => ⟨h.1, Row.cell_at h 0 rfl, Row.cell_at h 1 rfl, Row.cell_at h 2 rfl, Row.cell_at h 3 rfl, Row.cell_at h 4 rfl, frozen_of_row _ _ 0 _ _ h.2, frozen_of_row _ _ 1 _ _ h.2, frozen_of_row _ _ 2 _ _ h.2, frozen_of_row _ _ 3 _ _ h.2, frozen_of_row _ _ 4 _ _ h.2⟩
  obtain ⟨spb, cpb0, cpb1, cpb2, cpb3, cpb4, fpb0, fpb1, fpb2, fpb3, fpb4⟩ := Fpb _ rpb
  have drt_h := rrt.1
  have dpa_h := rpa.1
  have dpb_h := rpb.1
  have d0_h := hB.size
  refine wp_region_items 10 [.val (.pointer (some ⟨w.heap.size + 1 + 1, 0, none⟩)), .val (.int .i64 r0), .val (.int .i64 kr0), .val (.pointer (some ⟨w.heap.size + 1 + 1, 1, none⟩)), .val (.int .i64 r1), .val (.int .i64 kr1), .val (.int .i64 (1 + kr1)), .val (.agg #[.string (S r.num), .string (S (r.den : Int))]), .val (.agg #[.string (S r.num), .string (S (r.den : Int)), .slice none 0 0]), .say (fresh _ (.cells #[.string ⟨#[]⟩, .string ⟨#[]⟩, .slice none 0 0] 49))] (by kernel_rfl) (by kernel_rfl) ⟨fresh_mono _ _, trivial⟩ (allItems.cons qi0 (allItems.cons (qi1 fun X h => Frt X (Row.below rrt h)) (allItems.cons (qi2 fun X h => R0 X) (allItems.cons qi0 (allItems.cons (qi1 fun X h => Frt X (Row.below rrt h)) (allItems.cons (qi2 fun X h => R1 X) (allItems.cons (qif hwr) (allItems.cons (qi2 fun X h => MR X (he.below (hB.trans (h.mono hB.size)))) (allItems.cons qi0 (allItems.cons qia trivial)))))))))) ?_
  rintro W h1
  clear srt crt0 crt1
  clear spa cpa0 cpa1 cpa2 cpa3 cpa4 fpa0 fpa1 fpa2 fpa3 fpa4
  clear spb cpb0 cpb1 cpb2 cpb3 cpb4 fpb0 fpb1 fpb2 fpb3 fpb4
  replace hB := hB.trans (h1.mono hB.size)
  replace rrt := Row.below rrt h1
  replace rpa := Row.below rpa h1
  replace rpb := Row.below rpb h1
  clear h1
  obtain ⟨srt, crt0, crt1⟩ := Frt _ rrt
  obtain ⟨spa, cpa0, cpa1, cpa2, cpa3, cpa4, fpa0, fpa1, fpa2, fpa3, fpa4⟩ := Fpa _ rpa
  obtain ⟨spb, cpb0, cpb1, cpb2, cpb3, cpb4, fpb0, fpb1, fpb2, fpb3, fpb4⟩ := Fpb _ rpb
  simp only [setItems, List.setIfInBounds_toArray, List.set_cons_succ, List.set_cons_zero, List.take_succ_cons, List.take_zero, List.drop_succ_cons, List.drop_zero]
  rintro _ ⟨ph, rfl, hh, rh⟩
  replace drt_h := Nat.lt_of_lt_of_le drt_h hh
  replace dpa_h := Nat.lt_of_lt_of_le dpa_h hh
  replace dpb_h := Nat.lt_of_lt_of_le dpb_h hh
  replace d0_h := Nat.le_trans d0_h hh
  have Fh : ∀ X, Row X ph (.cells #[.string ⟨#[]⟩, .string ⟨#[]⟩, .slice none 0 0] 49) → (ph < X.heap.size ∧ X.cell? ⟨ph, 0, none⟩ = some (.string ⟨#[]⟩) ∧ X.cell? ⟨ph, 1, none⟩ = some (.string ⟨#[]⟩) ∧ X.cell? ⟨ph, 2, none⟩ = some (.slice none 0 0) ∧ X.frozen? ⟨ph, 0, none⟩ = false ∧ X.frozen? ⟨ph, 1, none⟩ = false ∧ X.frozen? ⟨ph, 2, none⟩ = false) := fun X h => ⟨h.1, Row.cell_at h 0 rfl, Row.cell_at h 1 rfl, Row.cell_at h 2 rfl, frozen_of_row _ _ 0 _ _ h.2, frozen_of_row _ _ 1 _ _ h.2, frozen_of_row _ _ 2 _ _ h.2⟩
  obtain ⟨sh, ch0, ch1, ch2, fh0, fh1, fh2⟩ := Fh _ rh
  go_wp2_with fail
  clear Frt
  have sB := hB.size
  refine world_cut (fun X => Below w.heap.size w X ∧ Row X ppa (.cells #[.int .i64 (a.t : Int), .string (S a.iv.lo.num), .string (S (a.iv.lo.den : Int)), .string (S a.iv.hi.num), .string (S (a.iv.hi.den : Int))] 53) ∧ Row X ppb (.cells #[.int .i64 (b.t : Int), .string (S b.iv.lo.num), .string (S (b.iv.lo.den : Int)), .string (S b.iv.hi.num), .string (S (b.iv.hi.den : Int))] 53) ∧ Row X ph (.cells #[.string (S r.num), .string (S (r.den : Int)), .slice none 0 0] 49)) ⟨BW, RWk, RWk, RWk⟩ ?_
  clear rrt
  clear srt crt0 crt1
  clear rpa
  clear spa cpa0 cpa1 cpa2 cpa3 cpa4 fpa0 fpa1 fpa2 fpa3 fpa4
  clear rpb
  clear spb cpb0 cpb1 cpb2 cpb3 cpb4 fpb0 fpb1 fpb2 fpb3 fpb4
  clear rh
  clear sh ch0 ch1 ch2 fh0 fh1 fh2
  clear hB sB
  rintro V5 ⟨hB, rpa, rpb, rh⟩
  obtain ⟨spa, cpa0, cpa1, cpa2, cpa3, cpa4, fpa0, fpa1, fpa2, fpa3, fpa4⟩ := Fpa _ rpa
  obtain ⟨spb, cpb0, cpb1, cpb2, cpb3, cpb4, fpb0, fpb1, fpb2, fpb3, fpb4⟩ := Fpb _ rpb
  clear Fh
  have Fh : ∀ X, Row X ph (.cells #[.string (S r.num), .string (S (r.den : Int)), .slice none 0 0] 49) → (ph < X.heap.size ∧ X.cell? ⟨ph, 0, none⟩ = some (.string (S r.num)) ∧ X.cell? ⟨ph, 1, none⟩ = some (.string (S (r.den : Int))) ∧ X.cell? ⟨ph, 2, none⟩ = some (.slice none 0 0) ∧ X.frozen? ⟨ph, 0, none⟩ = false ∧ X.frozen? ⟨ph, 1, none⟩ = false ∧ X.frozen? ⟨ph, 2, none⟩ = false) := fun X h => ⟨h.1, Row.cell_at h 0 rfl, Row.cell_at h 1 rfl, Row.cell_at h 2 rfl, frozen_of_row _ _ 0 _ _ h.2, frozen_of_row _ _ 1 _ _ h.2, frozen_of_row _ _ 2 _ _ h.2⟩
  obtain ⟨sh, ch0, ch1, ch2, fh0, fh1, fh2⟩ := Fh _ rh
  refine (A1 _ (he.below hB)).mono ?_
  rintro e W6 ⟨p1, c1, hp1, rfl, h1⟩
  clear spa cpa0 cpa1 cpa2 cpa3 cpa4 fpa0 fpa1 fpa2 fpa3 fpa4
  clear spb cpb0 cpb1 cpb2 cpb3 cpb4 fpb0 fpb1 fpb2 fpb3 fpb4
  clear sh ch0 ch1 ch2 fh0 fh1 fh2
  replace hB := hB.trans (h1.mono hB.size)
  replace rpa := Row.below rpa h1
  replace rpb := Row.below rpb h1
  replace rh := Row.below rh h1
  clear h1
  obtain ⟨spa, cpa0, cpa1, cpa2, cpa3, cpa4, fpa0, fpa1, fpa2, fpa3, fpa4⟩ := Fpa _ rpa
  obtain ⟨spb, cpb0, cpb1, cpb2, cpb3, cpb4, fpb0, fpb1, fpb2, fpb3, fpb4⟩ := Fpb _ rpb
  obtain ⟨sh, ch0, ch1, ch2, fh0, fh1, fh2⟩ := Fh _ rh
  go_wp2_with fail
  have sB := hB.size
  refine world_cut (fun X => Below w.heap.size w X ∧ Row X ppa (.cells #[.int .i64 (a.t : Int), .string (S a.iv.lo.num), .string (S (a.iv.lo.den : Int)), .string (S a.iv.hi.num), .string (S (a.iv.hi.den : Int))] 53) ∧ Row X ppb (.cells #[.int .i64 (b.t : Int), .string (S b.iv.lo.num), .string (S (b.iv.lo.den : Int)), .string (S b.iv.hi.num), .string (S (b.iv.hi.den : Int))] 53) ∧ Row X ph (.cells #[.string (S r.num), .string (S (r.den : Int)), .slice none 0 0] 49) ∧ PAt X p1 [a]) ⟨BW, RWk, RWk, RWk, (by first | with_reducible exact pat_set2 hp1 rd NER | with_reducible exact pat_set2 hp1 rgap NER | with_reducible exact pat_set2 hp1 rfast NEH | exact PAt.below hp1 BW)⟩ ?_
  clear rpa
  clear spa cpa0 cpa1 cpa2 cpa3 cpa4 fpa0 fpa1 fpa2 fpa3 fpa4
  clear rpb
  clear spb cpb0 cpb1 cpb2 cpb3 cpb4 fpb0 fpb1 fpb2 fpb3 fpb4
  clear rh
  clear sh ch0 ch1 ch2 fh0 fh1 fh2
  clear hB sB hp1
  rintro V7 ⟨hB, rpa, rpb, rh, hp1⟩
  obtain ⟨spa, cpa0, cpa1, cpa2, cpa3, cpa4, fpa0, fpa1, fpa2, fpa3, fpa4⟩ := Fpa _ rpa
  obtain ⟨spb, cpb0, cpb1, cpb2, cpb3, cpb4, fpb0, fpb1, fpb2, fpb3, fpb4⟩ := Fpb _ rpb
  obtain ⟨sh, ch0, ch1, ch2, fh0, fh1, fh2⟩ := Fh _ rh
  refine (A2 _ _ _ hp1 (he.below hB)).mono ?_
  rintro e W8 ⟨p2, c2, hp2, rfl, h1⟩
  clear spa cpa0 cpa1 cpa2 cpa3 cpa4 fpa0 fpa1 fpa2 fpa3 fpa4
  clear spb cpb0 cpb1 cpb2 cpb3 cpb4 fpb0 fpb1 fpb2 fpb3 fpb4
  clear sh ch0 ch1 ch2 fh0 fh1 fh2
  replace hB := hB.trans (h1.mono hB.size)
  replace rpa := Row.below rpa h1
  replace rpb := Row.below rpb h1
  replace rh := Row.below rh h1
  replace hp1 := PAt.below hp1 h1
  clear h1
  obtain ⟨spa, cpa0, cpa1, cpa2, cpa3, cpa4, fpa0, fpa1, fpa2, fpa3, fpa4⟩ := Fpa _ rpa
  obtain ⟨spb, cpb0, cpb1, cpb2, cpb3, cpb4, fpb0, fpb1, fpb2, fpb3, fpb4⟩ := Fpb _ rpb
  obtain ⟨sh, ch0, ch1, ch2, fh0, fh1, fh2⟩ := Fh _ rh
  clear hp1
  go_wp2_with fail
  have dpa_two : ppa < W8.heap.size := by omega
  have dpb_two : ppb < W8.heap.size := by omega
  have dh_two : ph < W8.heap.size := by omega
  have sB := hB.size
  refine world_cut (fun X => Below w.heap.size w X ∧ Row X ppa (.cells #[.int .i64 (a.t : Int), .string (S a.iv.lo.num), .string (S (a.iv.lo.den : Int)), .string (S a.iv.hi.num), .string (S (a.iv.hi.den : Int))] 53) ∧ Row X ppb (.cells #[.int .i64 (b.t : Int), .string (S b.iv.lo.num), .string (S (b.iv.lo.den : Int)), .string (S b.iv.hi.num), .string (S (b.iv.hi.den : Int))] 53) ∧ Row X ph (.cells #[.string (S r.num), .string (S (r.den : Int)), .slice none 0 0] 49) ∧ Row X W8.heap.size (.cells #[.string (S r.num), .string (S (r.den : Int)), .slice p2 2 c2] 49) ∧ PAt X p2 la) ⟨BW, RWk, RWk, RWk, RWk, (by first | with_reducible exact pat_set2 hp2 rd NER | with_reducible exact pat_set2 hp2 rgap NER | with_reducible exact pat_set2 hp2 rfast NEH | exact PAt.below hp2 BW)⟩ ?_
  clear rpa
  clear spa cpa0 cpa1 cpa2 cpa3 cpa4 fpa0 fpa1 fpa2 fpa3 fpa4
  clear rpb
  clear spb cpb0 cpb1 cpb2 cpb3 cpb4 fpb0 fpb1 fpb2 fpb3 fpb4
  clear rh
  clear sh ch0 ch1 ch2 fh0 fh1 fh2
  clear hB sB hp2
  rintro V9 ⟨hB, rpa, rpb, rh, rtwo, hp2⟩
  obtain ⟨spa, cpa0, cpa1, cpa2, cpa3, cpa4, fpa0, fpa1, fpa2, fpa3, fpa4⟩ := Fpa _ rpa
  obtain ⟨spb, cpb0, cpb1, cpb2, cpb3, cpb4, fpb0, fpb1, fpb2, fpb3, fpb4⟩ := Fpb _ rpb
  obtain ⟨sh, ch0, ch1, ch2, fh0, fh1, fh2⟩ := Fh _ rh
  have Ftwo : ∀ X, Row X W8.heap.size (.cells #[.string (S r.num), .string (S (r.den : Int)), .slice p2 2 c2] 49) → (W8.heap.size < X.heap.size ∧ X.cell? ⟨W8.heap.size, 0, none⟩ = some (.string (S r.num)) ∧ X.cell? ⟨W8.heap.size, 1, none⟩ = some (.string (S (r.den : Int))) ∧ X.cell? ⟨W8.heap.size, 2, none⟩ = some (.slice p2 2 c2)) := fun X h => ⟨h.1, Row.cell_at h 0 rfl, Row.cell_at h 1 rfl, Row.cell_at h 2 rfl⟩
  obtain ⟨stwo, ctwo0, ctwo1, ctwo2⟩ := Ftwo _ rtwo
  refine (A3 _ (he.below hB)).mono ?_
  rintro e W10 ⟨p3, c3, hp3, rfl, h1⟩
  clear spa cpa0 cpa1 cpa2 cpa3 cpa4 fpa0 fpa1 fpa2 fpa3 fpa4
  clear spb cpb0 cpb1 cpb2 cpb3 cpb4 fpb0 fpb1 fpb2 fpb3 fpb4
  clear sh ch0 ch1 ch2 fh0 fh1 fh2
  clear stwo ctwo0 ctwo1 ctwo2
  replace hB := hB.trans (h1.mono hB.size)
  replace rpa := Row.below rpa h1
  replace rpb := Row.below rpb h1
  replace rh := Row.below rh h1
  replace rtwo := Row.below rtwo h1
  replace hp2 := PAt.below hp2 h1
  clear h1
  obtain ⟨spa, cpa0, cpa1, cpa2, cpa3, cpa4, fpa0, fpa1, fpa2, fpa3, fpa4⟩ := Fpa _ rpa
  obtain ⟨spb, cpb0, cpb1, cpb2, cpb3, cpb4, fpb0, fpb1, fpb2, fpb3, fpb4⟩ := Fpb _ rpb
  obtain ⟨sh, ch0, ch1, ch2, fh0, fh1, fh2⟩ := Fh _ rh
  obtain ⟨stwo, ctwo0, ctwo1, ctwo2⟩ := Ftwo _ rtwo
  go_wp2_with fail
  have sB := hB.size
  refine world_cut (fun X => Below w.heap.size w X ∧ Row X ppa (.cells #[.int .i64 (a.t : Int), .string (S a.iv.lo.num), .string (S (a.iv.lo.den : Int)), .string (S a.iv.hi.num), .string (S (a.iv.hi.den : Int))] 53) ∧ Row X ppb (.cells #[.int .i64 (b.t : Int), .string (S b.iv.lo.num), .string (S (b.iv.lo.den : Int)), .string (S b.iv.hi.num), .string (S (b.iv.hi.den : Int))] 53) ∧ Row X ph (.cells #[.string (S r.num), .string (S (r.den : Int)), .slice none 0 0] 49) ∧ Row X W8.heap.size (.cells #[.string (S r.num), .string (S (r.den : Int)), .slice p2 2 c2] 49) ∧ PAt X p2 la ∧ PAt X p3 [b]) ⟨BW, RWk, RWk, RWk, RWk, (by first | with_reducible exact pat_set2 hp2 rd NER | with_reducible exact pat_set2 hp2 rgap NER | with_reducible exact pat_set2 hp2 rfast NEH | exact PAt.below hp2 BW), (by first | with_reducible exact pat_set2 hp3 rd NER | with_reducible exact pat_set2 hp3 rgap NER | with_reducible exact pat_set2 hp3 rfast NEH | exact PAt.below hp3 BW)⟩ ?_
  clear rpa
  clear spa cpa0 cpa1 cpa2 cpa3 cpa4 fpa0 fpa1 fpa2 fpa3 fpa4
  clear rpb
  clear spb cpb0 cpb1 cpb2 cpb3 cpb4 fpb0 fpb1 fpb2 fpb3 fpb4
  clear rh
  clear sh ch0 ch1 ch2 fh0 fh1 fh2
  clear rtwo
  clear stwo ctwo0 ctwo1 ctwo2
  clear hB sB hp2 hp3
  rintro V11 ⟨hB, rpa, rpb, rh, rtwo, hp2, hp3⟩
  obtain ⟨spa, cpa0, cpa1, cpa2, cpa3, cpa4, fpa0, fpa1, fpa2, fpa3, fpa4⟩ := Fpa _ rpa
  obtain ⟨spb, cpb0, cpb1, cpb2, cpb3, cpb4, fpb0, fpb1, fpb2, fpb3, fpb4⟩ := Fpb _ rpb
  obtain ⟨sh, ch0, ch1, ch2, fh0, fh1, fh2⟩ := Fh _ rh
  obtain ⟨stwo, ctwo0, ctwo1, ctwo2⟩ := Ftwo _ rtwo
  refine (A4 _ _ _ hp3 (he.below hB)).mono ?_
  rintro e W12 ⟨p4, c4, hp4, rfl, h1⟩
  clear spa cpa0 cpa1 cpa2 cpa3 cpa4 fpa0 fpa1 fpa2 fpa3 fpa4
  clear spb cpb0 cpb1 cpb2 cpb3 cpb4 fpb0 fpb1 fpb2 fpb3 fpb4
  clear sh ch0 ch1 ch2 fh0 fh1 fh2
  clear stwo ctwo0 ctwo1 ctwo2
  replace hB := hB.trans (h1.mono hB.size)
  replace rpa := Row.below rpa h1
  replace rpb := Row.below rpb h1
  replace rh := Row.below rh h1
  replace rtwo := Row.below rtwo h1
  replace hp2 := PAt.below hp2 h1
  replace hp3 := PAt.below hp3 h1
  clear h1
  obtain ⟨spa, cpa0, cpa1, cpa2, cpa3, cpa4, fpa0, fpa1, fpa2, fpa3, fpa4⟩ := Fpa _ rpa
  obtain ⟨spb, cpb0, cpb1, cpb2, cpb3, cpb4, fpb0, fpb1, fpb2, fpb3, fpb4⟩ := Fpb _ rpb
  obtain ⟨sh, ch0, ch1, ch2, fh0, fh1, fh2⟩ := Fh _ rh
  obtain ⟨stwo, ctwo0, ctwo1, ctwo2⟩ := Ftwo _ rtwo
  clear hp3
  by_cases hc : contra r a b
  · have n2 : (cons ⟨r, la⟩).length = 1 := by rw [HN2.out, if_pos hc]
    have n4 : (cons ⟨r, lb⟩).length = 1 := by rw [HN4.out, if_pos (HCC.out.2 hc)]
    replace C2 := C2 _ n2
    replace C4 := C4 _ n4
    have hcx : 0 < cmpQ gm dm := HC.out.1 hc
    replace DA := DB hc
    clear DB n2 n4 hc
    go_wp2_with fail
    have dpa_tur : ppa < W12.heap.size := by omega
    have dpb_tur : ppb < W12.heap.size := by omega
    have dh_tur : ph < W12.heap.size := by omega
    have sB := hB.size
    refine world_cut (fun X => Below w.heap.size w X ∧ Row X ppa (.cells #[.int .i64 (a.t : Int), .string (S a.iv.lo.num), .string (S (a.iv.lo.den : Int)), .string (S a.iv.hi.num), .string (S (a.iv.hi.den : Int))] 53) ∧ Row X ppb (.cells #[.int .i64 (b.t : Int), .string (S b.iv.lo.num), .string (S (b.iv.lo.den : Int)), .string (S b.iv.hi.num), .string (S (b.iv.hi.den : Int))] 53) ∧ Row X ph (.cells #[.string (S r.num), .string (S (r.den : Int)), .slice none 0 0] 49) ∧ Row X W8.heap.size (.cells #[.string (S r.num), .string (S (r.den : Int)), .slice p2 2 c2] 49) ∧ Row X W12.heap.size (.cells #[.string (S r.num), .string (S (r.den : Int)), .slice p4 2 c4] 49) ∧ PAt X p2 la ∧ PAt X p4 lb) ⟨BW, RWk, RWk, RWk, RWk, RWk, (by first | with_reducible exact pat_set2 hp2 rd NER | with_reducible exact pat_set2 hp2 rgap NER | with_reducible exact pat_set2 hp2 rfast NEH | exact PAt.below hp2 BW), (by first | with_reducible exact pat_set2 hp4 rd NER | with_reducible exact pat_set2 hp4 rgap NER | with_reducible exact pat_set2 hp4 rfast NEH | exact PAt.below hp4 BW)⟩ ?_
    clear rpa
    clear spa cpa0 cpa1 cpa2 cpa3 cpa4 fpa0 fpa1 fpa2 fpa3 fpa4
    clear rpb
    clear spb cpb0 cpb1 cpb2 cpb3 cpb4 fpb0 fpb1 fpb2 fpb3 fpb4
    clear rh
    clear sh ch0 ch1 ch2 fh0 fh1 fh2
    clear rtwo
    clear stwo ctwo0 ctwo1 ctwo2
    clear hB sB hp2 hp4
    rintro V13 ⟨hB, rpa, rpb, rh, rtwo, rtur, hp2, hp4⟩
    obtain ⟨spa, cpa0, cpa1, cpa2, cpa3, cpa4, fpa0, fpa1, fpa2, fpa3, fpa4⟩ := Fpa _ rpa
    obtain ⟨spb, cpb0, cpb1, cpb2, cpb3, cpb4, fpb0, fpb1, fpb2, fpb3, fpb4⟩ := Fpb _ rpb
    obtain ⟨sh, ch0, ch1, ch2, fh0, fh1, fh2⟩ := Fh _ rh
    obtain ⟨stwo, ctwo0, ctwo1, ctwo2⟩ := Ftwo _ rtwo
    have Ftur : ∀ X, Row X W12.heap.size (.cells #[.string (S r.num), .string (S (r.den : Int)), .slice p4 2 c4] 49) → (W12.heap.size < X.heap.size ∧ X.cell? ⟨W12.heap.size, 0, none⟩ = some (.string (S r.num)) ∧ X.cell? ⟨W12.heap.size, 1, none⟩ = some (.string (S (r.den : Int))) ∧ X.cell? ⟨W12.heap.size, 2, none⟩ = some (.slice p4 2 c4)) := fun X h => ⟨h.1, Row.cell_at h 0 rfl, Row.cell_at h 1 rfl, Row.cell_at h 2 rfl⟩
    obtain ⟨stur, ctur0, ctur1, ctur2⟩ := Ftur _ rtur
    refine (C2 _ _ _ hp2 (he.below hB)).mono ?_
    rintro e W14 ⟨v, rfl, ⟨p5, c5, rfl⟩, h1⟩
    clear spa cpa0 cpa1 cpa2 cpa3 cpa4 fpa0 fpa1 fpa2 fpa3 fpa4
    clear spb cpb0 cpb1 cpb2 cpb3 cpb4 fpb0 fpb1 fpb2 fpb3 fpb4
    clear sh ch0 ch1 ch2 fh0 fh1 fh2
    clear stwo ctwo0 ctwo1 ctwo2
    clear stur ctur0 ctur1 ctur2
    replace hB := hB.trans (h1.mono hB.size)
    replace rpa := Row.below rpa h1
    replace rpb := Row.below rpb h1
    replace rh := Row.below rh h1
    replace rtwo := Row.below rtwo h1
    replace rtur := Row.below rtur h1
    replace hp2 := PAt.below hp2 h1
    replace hp4 := PAt.below hp4 h1
    clear h1
    obtain ⟨spa, cpa0, cpa1, cpa2, cpa3, cpa4, fpa0, fpa1, fpa2, fpa3, fpa4⟩ := Fpa _ rpa
    obtain ⟨spb, cpb0, cpb1, cpb2, cpb3, cpb4, fpb0, fpb1, fpb2, fpb3, fpb4⟩ := Fpb _ rpb
    obtain ⟨sh, ch0, ch1, ch2, fh0, fh1, fh2⟩ := Fh _ rh
    obtain ⟨stwo, ctwo0, ctwo1, ctwo2⟩ := Ftwo _ rtwo
    obtain ⟨stur, ctur0, ctur1, ctur2⟩ := Ftur _ rtur
    go_wp2_with fail
    refine (DA _ _ _ hp2 (he.below hB)).mono ?_
    rintro e W15 ⟨rfl, h1⟩
    clear spa cpa0 cpa1 cpa2 cpa3 cpa4 fpa0 fpa1 fpa2 fpa3 fpa4
    clear spb cpb0 cpb1 cpb2 cpb3 cpb4 fpb0 fpb1 fpb2 fpb3 fpb4
    clear sh ch0 ch1 ch2 fh0 fh1 fh2
    clear stwo ctwo0 ctwo1 ctwo2
    clear stur ctur0 ctur1 ctur2
    replace hB := hB.trans (h1.mono hB.size)
    replace rpa := Row.below rpa h1
    replace rpb := Row.below rpb h1
    replace rh := Row.below rh h1
    replace rtwo := Row.below rtwo h1
    replace rtur := Row.below rtur h1
    replace hp2 := PAt.below hp2 h1
    replace hp4 := PAt.below hp4 h1
    clear h1
    obtain ⟨spa, cpa0, cpa1, cpa2, cpa3, cpa4, fpa0, fpa1, fpa2, fpa3, fpa4⟩ := Fpa _ rpa
    obtain ⟨spb, cpb0, cpb1, cpb2, cpb3, cpb4, fpb0, fpb1, fpb2, fpb3, fpb4⟩ := Fpb _ rpb
    obtain ⟨sh, ch0, ch1, ch2, fh0, fh1, fh2⟩ := Fh _ rh
    obtain ⟨stwo, ctwo0, ctwo1, ctwo2⟩ := Ftwo _ rtwo
    obtain ⟨stur, ctur0, ctur1, ctur2⟩ := Ftur _ rtur
    go_wp2_with fail
    have sB := hB.size
    refine world_cut (fun X => Below w.heap.size w X ∧ Row X ppa (.cells #[.int .i64 (a.t : Int), .string (S a.iv.lo.num), .string (S (a.iv.lo.den : Int)), .string (S a.iv.hi.num), .string (S (a.iv.hi.den : Int))] 53) ∧ Row X ppb (.cells #[.int .i64 (b.t : Int), .string (S b.iv.lo.num), .string (S (b.iv.lo.den : Int)), .string (S b.iv.hi.num), .string (S (b.iv.hi.den : Int))] 53) ∧ Row X ph (.cells #[.string (S r.num), .string (S (r.den : Int)), .slice none 0 0] 49) ∧ Row X W8.heap.size (.cells #[.string (S r.num), .string (S (r.den : Int)), .slice p2 2 c2] 49) ∧ Row X W12.heap.size (.cells #[.string (S r.num), .string (S (r.den : Int)), .slice p4 2 c4] 49) ∧ PAt X p2 la ∧ PAt X p4 lb) ⟨BW, RWk, RWk, RWk, RWk, RWk, (by first | with_reducible exact pat_set2 hp2 rd NER | with_reducible exact pat_set2 hp2 rgap NER | with_reducible exact pat_set2 hp2 rfast NEH | exact PAt.below hp2 BW), (by first | with_reducible exact pat_set2 hp4 rd NER | with_reducible exact pat_set2 hp4 rgap NER | with_reducible exact pat_set2 hp4 rfast NEH | exact PAt.below hp4 BW)⟩ ?_
    clear rpa
    clear spa cpa0 cpa1 cpa2 cpa3 cpa4 fpa0 fpa1 fpa2 fpa3 fpa4
    clear rpb
    clear spb cpb0 cpb1 cpb2 cpb3 cpb4 fpb0 fpb1 fpb2 fpb3 fpb4
    clear rh
    clear sh ch0 ch1 ch2 fh0 fh1 fh2
    clear rtwo
    clear stwo ctwo0 ctwo1 ctwo2
    clear rtur
    clear stur ctur0 ctur1 ctur2
    clear hB sB hp2 hp4
    rintro V16 ⟨hB, rpa, rpb, rh, rtwo, rtur, hp2, hp4⟩
    obtain ⟨spa, cpa0, cpa1, cpa2, cpa3, cpa4, fpa0, fpa1, fpa2, fpa3, fpa4⟩ := Fpa _ rpa
    obtain ⟨spb, cpb0, cpb1, cpb2, cpb3, cpb4, fpb0, fpb1, fpb2, fpb3, fpb4⟩ := Fpb _ rpb
    obtain ⟨sh, ch0, ch1, ch2, fh0, fh1, fh2⟩ := Fh _ rh
    obtain ⟨stwo, ctwo0, ctwo1, ctwo2⟩ := Ftwo _ rtwo
    obtain ⟨stur, ctur0, ctur1, ctur2⟩ := Ftur _ rtur
    refine (MG _ (he.below hB)).mono ?_
    rintro e W17 ⟨rfl, h1⟩
    clear spa cpa0 cpa1 cpa2 cpa3 cpa4 fpa0 fpa1 fpa2 fpa3 fpa4
    clear spb cpb0 cpb1 cpb2 cpb3 cpb4 fpb0 fpb1 fpb2 fpb3 fpb4
    clear sh ch0 ch1 ch2 fh0 fh1 fh2
    clear stwo ctwo0 ctwo1 ctwo2
    clear stur ctur0 ctur1 ctur2
    replace hB := hB.trans (h1.mono hB.size)
    replace rpa := Row.below rpa h1
    replace rpb := Row.below rpb h1
    replace rh := Row.below rh h1
    replace rtwo := Row.below rtwo h1
    replace rtur := Row.below rtur h1
    replace hp2 := PAt.below hp2 h1
    replace hp4 := PAt.below hp4 h1
    clear h1
    obtain ⟨spa, cpa0, cpa1, cpa2, cpa3, cpa4, fpa0, fpa1, fpa2, fpa3, fpa4⟩ := Fpa _ rpa
    obtain ⟨spb, cpb0, cpb1, cpb2, cpb3, cpb4, fpb0, fpb1, fpb2, fpb3, fpb4⟩ := Fpb _ rpb
    obtain ⟨sh, ch0, ch1, ch2, fh0, fh1, fh2⟩ := Fh _ rh
    obtain ⟨stwo, ctwo0, ctwo1, ctwo2⟩ := Ftwo _ rtwo
    obtain ⟨stur, ctur0, ctur1, ctur2⟩ := Ftur _ rtur
    go_wp2_with fail
    have dpa_gap : ppa < W17.heap.size := by omega
    have dpb_gap : ppb < W17.heap.size := by omega
    have dh_gap : ph < W17.heap.size := by omega
    have dtwo_gap : W8.heap.size < W17.heap.size := by omega
    have dtur_gap : W12.heap.size < W17.heap.size := by omega
    have d0_gap : w.heap.size ≤ W17.heap.size := by have := hB.size; omega
    have sB := hB.size
    refine world_cut (fun X => Below w.heap.size w X ∧ Row X ppa (.cells #[.int .i64 (a.t : Int), .string (S a.iv.lo.num), .string (S (a.iv.lo.den : Int)), .string (S a.iv.hi.num), .string (S (a.iv.hi.den : Int))] 53) ∧ Row X ppb (.cells #[.int .i64 (b.t : Int), .string (S b.iv.lo.num), .string (S (b.iv.lo.den : Int)), .string (S b.iv.hi.num), .string (S (b.iv.hi.den : Int))] 53) ∧ Row X ph (.cells #[.string (S r.num), .string (S (r.den : Int)), .slice none 0 0] 49) ∧ Row X W8.heap.size (.cells #[.string (S r.num), .string (S (r.den : Int)), .slice p2 2 c2] 49) ∧ Row X W12.heap.size (.cells #[.string (S r.num), .string (S (r.den : Int)), .slice p4 2 c4] 49) ∧ Row X W17.heap.size (.cells #[.string (S g1.num), .string (S (g1.den : Int))] 26) ∧ PAt X p2 la ∧ PAt X p4 lb) ⟨BW, RWk, RWk, RWk, RWk, RWk, RWk, (by first | with_reducible exact pat_set2 hp2 rd NER | with_reducible exact pat_set2 hp2 rgap NER | with_reducible exact pat_set2 hp2 rfast NEH | exact PAt.below hp2 BW), (by first | with_reducible exact pat_set2 hp4 rd NER | with_reducible exact pat_set2 hp4 rgap NER | with_reducible exact pat_set2 hp4 rfast NEH | exact PAt.below hp4 BW)⟩ ?_
    clear rpa
    clear spa cpa0 cpa1 cpa2 cpa3 cpa4 fpa0 fpa1 fpa2 fpa3 fpa4
    clear rpb
    clear spb cpb0 cpb1 cpb2 cpb3 cpb4 fpb0 fpb1 fpb2 fpb3 fpb4
    clear rh
    clear sh ch0 ch1 ch2 fh0 fh1 fh2
    clear rtwo
    clear stwo ctwo0 ctwo1 ctwo2
    clear rtur
    clear stur ctur0 ctur1 ctur2
    clear hB sB hp2 hp4
    rintro V18 ⟨hB, rpa, rpb, rh, rtwo, rtur, rgap, hp2, hp4⟩
    obtain ⟨spa, cpa0, cpa1, cpa2, cpa3, cpa4, fpa0, fpa1, fpa2, fpa3, fpa4⟩ := Fpa _ rpa
    obtain ⟨spb, cpb0, cpb1, cpb2, cpb3, cpb4, fpb0, fpb1, fpb2, fpb3, fpb4⟩ := Fpb _ rpb
    obtain ⟨sh, ch0, ch1, ch2, fh0, fh1, fh2⟩ := Fh _ rh
    obtain ⟨stwo, ctwo0, ctwo1, ctwo2⟩ := Ftwo _ rtwo
    obtain ⟨stur, ctur0, ctur1, ctur2⟩ := Ftur _ rtur
    have Fgap : ∀ X, Row X W17.heap.size (.cells #[.string (S g1.num), .string (S (g1.den : Int))] 26) → (W17.heap.size < X.heap.size ∧ X.cell? ⟨W17.heap.size, 0, none⟩ = some (.string (S g1.num)) ∧ X.cell? ⟨W17.heap.size, 1, none⟩ = some (.string (S (g1.den : Int))) ∧ X.frozen? ⟨W17.heap.size, 0, none⟩ = false ∧ X.frozen? ⟨W17.heap.size, 1, none⟩ = false) := fun X h => ⟨h.1, Row.cell_at h 0 rfl, Row.cell_at h 1 rfl, frozen_of_row _ _ 0 _ _ h.2, frozen_of_row _ _ 1 _ _ h.2⟩
    obtain ⟨sgap, cgap0, cgap1, fgap0, fgap1⟩ := Fgap _ rgap
    refine (MH _ (he.below hB)).mono ?_
    rintro e W19 ⟨rfl, h1⟩
    clear spa cpa0 cpa1 cpa2 cpa3 cpa4 fpa0 fpa1 fpa2 fpa3 fpa4
    clear spb cpb0 cpb1 cpb2 cpb3 cpb4 fpb0 fpb1 fpb2 fpb3 fpb4
    clear sh ch0 ch1 ch2 fh0 fh1 fh2
    clear stwo ctwo0 ctwo1 ctwo2
    clear stur ctur0 ctur1 ctur2
    clear sgap cgap0 cgap1 fgap0 fgap1
    replace hB := hB.trans (h1.mono hB.size)
    replace rpa := Row.below rpa h1
    replace rpb := Row.below rpb h1
    replace rh := Row.below rh h1
    replace rtwo := Row.below rtwo h1
    replace rtur := Row.below rtur h1
    replace rgap := Row.below rgap h1
    replace hp2 := PAt.below hp2 h1
    replace hp4 := PAt.below hp4 h1
    clear h1
    obtain ⟨spa, cpa0, cpa1, cpa2, cpa3, cpa4, fpa0, fpa1, fpa2, fpa3, fpa4⟩ := Fpa _ rpa
    obtain ⟨spb, cpb0, cpb1, cpb2, cpb3, cpb4, fpb0, fpb1, fpb2, fpb3, fpb4⟩ := Fpb _ rpb
    obtain ⟨sh, ch0, ch1, ch2, fh0, fh1, fh2⟩ := Fh _ rh
    obtain ⟨stwo, ctwo0, ctwo1, ctwo2⟩ := Ftwo _ rtwo
    obtain ⟨stur, ctur0, ctur1, ctur2⟩ := Ftur _ rtur
    obtain ⟨sgap, cgap0, cgap1, fgap0, fgap1⟩ := Fgap _ rgap
    go_wp2_with fail
    have dpa_back : ppa < W19.heap.size := by omega
    have dpb_back : ppb < W19.heap.size := by omega
    have dh_back : ph < W19.heap.size := by omega
    have dgap_back : W17.heap.size < W19.heap.size := by omega
    have sB := hB.size
    refine world_cut (fun X => Below w.heap.size w X ∧ Row X ppa (.cells #[.int .i64 (a.t : Int), .string (S a.iv.lo.num), .string (S (a.iv.lo.den : Int)), .string (S a.iv.hi.num), .string (S (a.iv.hi.den : Int))] 53) ∧ Row X ppb (.cells #[.int .i64 (b.t : Int), .string (S b.iv.lo.num), .string (S (b.iv.lo.den : Int)), .string (S b.iv.hi.num), .string (S (b.iv.hi.den : Int))] 53) ∧ Row X ph (.cells #[.string (S r.num), .string (S (r.den : Int)), .slice none 0 0] 49) ∧ Row X W8.heap.size (.cells #[.string (S r.num), .string (S (r.den : Int)), .slice p2 2 c2] 49) ∧ Row X W12.heap.size (.cells #[.string (S r.num), .string (S (r.den : Int)), .slice p4 2 c4] 49) ∧ Row X W17.heap.size (.cells #[.string (S g1.num), .string (S (g1.den : Int))] 26) ∧ Row X W19.heap.size (.cells #[.string (S g2.num), .string (S (g2.den : Int))] 26) ∧ PAt X p2 la ∧ PAt X p4 lb) ⟨BW, RWk, RWk, RWk, RWk, RWk, RWk, RWk, (by first | with_reducible exact pat_set2 hp2 rd NER | with_reducible exact pat_set2 hp2 rgap NER | with_reducible exact pat_set2 hp2 rfast NEH | exact PAt.below hp2 BW), (by first | with_reducible exact pat_set2 hp4 rd NER | with_reducible exact pat_set2 hp4 rgap NER | with_reducible exact pat_set2 hp4 rfast NEH | exact PAt.below hp4 BW)⟩ ?_
    clear rpa
    clear spa cpa0 cpa1 cpa2 cpa3 cpa4 fpa0 fpa1 fpa2 fpa3 fpa4
    clear rpb
    clear spb cpb0 cpb1 cpb2 cpb3 cpb4 fpb0 fpb1 fpb2 fpb3 fpb4
    clear rh
    clear sh ch0 ch1 ch2 fh0 fh1 fh2
    clear rtwo
    clear stwo ctwo0 ctwo1 ctwo2
    clear rtur
    clear stur ctur0 ctur1 ctur2
    clear rgap
    clear sgap cgap0 cgap1 fgap0 fgap1
    clear hB sB hp2 hp4
    rintro V20 ⟨hB, rpa, rpb, rh, rtwo, rtur, rgap, rback, hp2, hp4⟩
    obtain ⟨spa, cpa0, cpa1, cpa2, cpa3, cpa4, fpa0, fpa1, fpa2, fpa3, fpa4⟩ := Fpa _ rpa
    obtain ⟨spb, cpb0, cpb1, cpb2, cpb3, cpb4, fpb0, fpb1, fpb2, fpb3, fpb4⟩ := Fpb _ rpb
    obtain ⟨sh, ch0, ch1, ch2, fh0, fh1, fh2⟩ := Fh _ rh
    obtain ⟨stwo, ctwo0, ctwo1, ctwo2⟩ := Ftwo _ rtwo
    obtain ⟨stur, ctur0, ctur1, ctur2⟩ := Ftur _ rtur
    obtain ⟨sgap, cgap0, cgap1, fgap0, fgap1⟩ := Fgap _ rgap
    have Fback : ∀ X, Row X W19.heap.size (.cells #[.string (S g2.num), .string (S (g2.den : Int))] 26) → (W19.heap.size < X.heap.size ∧ X.cell? ⟨W19.heap.size, 0, none⟩ = some (.string (S g2.num)) ∧ X.cell? ⟨W19.heap.size, 1, none⟩ = some (.string (S (g2.den : Int)))) := fun X h => ⟨h.1, Row.cell_at h 0 rfl, Row.cell_at h 1 rfl⟩
    obtain ⟨sback, cback0, cback1⟩ := Fback _ rback
    refine (MCM _ (he.below hB)).mono ?_
    rintro e W21 ⟨rfl, h1⟩
    clear spa cpa0 cpa1 cpa2 cpa3 cpa4 fpa0 fpa1 fpa2 fpa3 fpa4
    clear spb cpb0 cpb1 cpb2 cpb3 cpb4 fpb0 fpb1 fpb2 fpb3 fpb4
    clear sh ch0 ch1 ch2 fh0 fh1 fh2
    clear stwo ctwo0 ctwo1 ctwo2
    clear stur ctur0 ctur1 ctur2
    clear sgap cgap0 cgap1 fgap0 fgap1
    clear sback cback0 cback1
    replace hB := hB.trans (h1.mono hB.size)
    replace rpa := Row.below rpa h1
    replace rpb := Row.below rpb h1
    replace rh := Row.below rh h1
    replace rtwo := Row.below rtwo h1
    replace rtur := Row.below rtur h1
    replace rgap := Row.below rgap h1
    replace rback := Row.below rback h1
    replace hp2 := PAt.below hp2 h1
    replace hp4 := PAt.below hp4 h1
    clear h1
    obtain ⟨spa, cpa0, cpa1, cpa2, cpa3, cpa4, fpa0, fpa1, fpa2, fpa3, fpa4⟩ := Fpa _ rpa
    obtain ⟨spb, cpb0, cpb1, cpb2, cpb3, cpb4, fpb0, fpb1, fpb2, fpb3, fpb4⟩ := Fpb _ rpb
    obtain ⟨sh, ch0, ch1, ch2, fh0, fh1, fh2⟩ := Fh _ rh
    obtain ⟨stwo, ctwo0, ctwo1, ctwo2⟩ := Ftwo _ rtwo
    obtain ⟨stur, ctur0, ctur1, ctur2⟩ := Ftur _ rtur
    obtain ⟨sgap, cgap0, cgap1, fgap0, fgap1⟩ := Fgap _ rgap
    obtain ⟨sback, cback0, cback1⟩ := Fback _ rback
    go_upto_if 150 with fail
    go_cut [] (fun W => Below w.heap.size w W ∧ Row W ppa (.cells #[.int .i64 (a.t : Int), .string (S a.iv.lo.num), .string (S (a.iv.lo.den : Int)), .string (S a.iv.hi.num), .string (S (a.iv.hi.den : Int))] 53) ∧ Row W ppb (.cells #[.int .i64 (b.t : Int), .string (S b.iv.lo.num), .string (S (b.iv.lo.den : Int)), .string (S b.iv.hi.num), .string (S (b.iv.hi.den : Int))] 53) ∧ Row W ph (.cells #[.string (S r.num), .string (S (r.den : Int)), .slice none 0 0] 49) ∧ Row W W8.heap.size (.cells #[.string (S r.num), .string (S (r.den : Int)), .slice p2 2 c2] 49) ∧ Row W W12.heap.size (.cells #[.string (S r.num), .string (S (r.den : Int)), .slice p4 2 c4] 49) ∧ Row W W17.heap.size (.cells #[.string (S gm.num), .string (S (gm.den : Int))] 26) ∧ Row W W19.heap.size (.cells #[.string (S g2.num), .string (S (g2.den : Int))] 26) ∧ PAt W p2 la ∧ PAt W p4 lb)
    case first =>
      by_cases hcc : 0 < cmpQ g2 g1
      · have E9 := Lib.hid (HGM.out.trans (if_pos hcc))
        go_wp2
        go_meet
        case rel => rw [E9.out]; exact ⟨BW, RWk, RWk, RWk, RWk, RWk, RWk, RWk, (by first | with_reducible exact pat_set2 hp2 rd NER | with_reducible exact pat_set2 hp2 rgap NER | with_reducible exact pat_set2 hp2 rfast NEH | exact PAt.below hp2 BW), (by first | with_reducible exact pat_set2 hp4 rd NER | with_reducible exact pat_set2 hp4 rgap NER | with_reducible exact pat_set2 hp4 rfast NEH | exact PAt.below hp4 BW)⟩
      · have E9 := Lib.hid (HGM.out.trans (if_neg hcc))
        go_wp2
        go_meet
        case rel => rw [E9.out]; exact ⟨BW, RWk, RWk, RWk, RWk, RWk, RWk, RWk, (by first | with_reducible exact pat_set2 hp2 rd NER | with_reducible exact pat_set2 hp2 rgap NER | with_reducible exact pat_set2 hp2 rfast NEH | exact PAt.below hp2 BW), (by first | with_reducible exact pat_set2 hp4 rd NER | with_reducible exact pat_set2 hp4 rgap NER | with_reducible exact pat_set2 hp4 rfast NEH | exact PAt.below hp4 BW)⟩
    case rest =>
      clear hB rpa rpb rh rtwo rtur rgap rback hp2 hp4
      clear spa cpa0 cpa1 cpa2 cpa3 cpa4 fpa0 fpa1 fpa2 fpa3 fpa4
      clear spb cpb0 cpb1 cpb2 cpb3 cpb4 fpb0 fpb1 fpb2 fpb3 fpb4
      clear sh ch0 ch1 ch2 fh0 fh1 fh2
      clear stwo ctwo0 ctwo1 ctwo2
      clear stur ctur0 ctur1 ctur2
      clear sgap cgap0 cgap1 fgap0 fgap1
      clear sback cback0 cback1
      obtain ⟨hB, rpa, rpb, rh, rtwo, rtur, rgap, rback, hp2, hp4⟩ := hcut
      skip
      obtain ⟨spa, cpa0, cpa1, cpa2, cpa3, cpa4, fpa0, fpa1, fpa2, fpa3, fpa4⟩ := Fpa _ rpa
      obtain ⟨spb, cpb0, cpb1, cpb2, cpb3, cpb4, fpb0, fpb1, fpb2, fpb3, fpb4⟩ := Fpb _ rpb
      obtain ⟨sh, ch0, ch1, ch2, fh0, fh1, fh2⟩ := Fh _ rh
      obtain ⟨stwo, ctwo0, ctwo1, ctwo2⟩ := Ftwo _ rtwo
      obtain ⟨stur, ctur0, ctur1, ctur2⟩ := Ftur _ rtur
      clear Fgap
      have Fgap : ∀ X, Row X W17.heap.size (.cells #[.string (S gm.num), .string (S (gm.den : Int))] 26) → (W17.heap.size < X.heap.size ∧ X.cell? ⟨W17.heap.size, 0, none⟩ = some (.string (S gm.num)) ∧ X.cell? ⟨W17.heap.size, 1, none⟩ = some (.string (S (gm.den : Int))) ∧ X.frozen? ⟨W17.heap.size, 0, none⟩ = false ∧ X.frozen? ⟨W17.heap.size, 1, none⟩ = false) := fun X h => ⟨h.1, Row.cell_at h 0 rfl, Row.cell_at h 1 rfl, frozen_of_row _ _ 0 _ _ h.2, frozen_of_row _ _ 1 _ _ h.2⟩
      obtain ⟨sgap, cgap0, cgap1, fgap0, fgap1⟩ := Fgap _ rgap
      obtain ⟨sback, cback0, cback1⟩ := Fback _ rback
      go_wp2_with fail
      clear rback
      clear sback cback0 cback1
      clear Fback
      have dpa_d := rpa.1
      have dpb_d := rpb.1
      have dh_d := rh.1
      have dtwo_d := rtwo.1
      have dtur_d := rtur.1
      have dgap_d := rgap.1
      have d0_d := hB.size
      refine wp_region_late 19 [17] [.val (.pointer (some ⟨ph, 0, none⟩)), .val (.agg #[.string (S r.num), .string (S (r.den : Int))]), .val (.pointer (some ⟨ppa, 0, none⟩)), .val (.int .i64 (a.t : Int)), .val (.pointer (some ⟨ppb, 0, none⟩)), .val (.int .i64 (b.t : Int)), .val (.int .i64 ((a.t : Int) - (b.t : Int))), .val (.pointer (some ⟨ppb, 0, none⟩)), .val (.int .i64 (b.t : Int)), .val (.pointer (some ⟨ppa, 0, none⟩)), .val (.int .i64 (a.t : Int)), .val (.int .i64 ((b.t : Int) - (a.t : Int))), .val (.int .i64 dd), .val (.agg #[.string (S fd.num), .string (S (fd.den : Int))]), .val (.tuple #[.agg #[.string (S dm.num), .string (S (dm.den : Int))], .int .i64 0]), .val (.tuple #[.agg #[.string (S dm.num), .string (S (dm.den : Int))], .int .i64 0]), .val (.agg #[.string (S dm.num), .string (S (dm.den : Int))]), .val (.int .i64 0), .say (fresh _ (.cells #[.string ⟨#[]⟩, .string ⟨#[]⟩] 26))] [26] (by kernel_rfl) (by kernel_rfl) (by kernel_rfl) rfl ⟨fresh_mono _ _, trivial⟩ (allItems.cons qi0 (allItems.cons (qi1 fun X h => Fh X (Row.below rh h)) (allItems.cons qi0 (allItems.cons (qi1 fun X h => Fpa X (Row.below rpa h)) (allItems.cons qi0 (allItems.cons (qi1 fun X h => Fpb X (Row.below rpb h)) (allItems.cons (qif hs1) (allItems.cons qi0 (allItems.cons (qi1 fun X h => Fpb X (Row.below rpb h)) (allItems.cons qi0 (allItems.cons (qi1 fun X h => Fpa X (Row.below rpa h)) (allItems.cons (qif hs2) (allItems.cons (qif hmx) (allItems.cons (qi2 fun X h => MO X (he.below (hB.trans (h.mono hB.size)))) (allItems.cons (qi2 fun X h => MM X (he.below (hB.trans (h.mono hB.size)))) (allItems.cons qi0 (allItems.cons qi0 (allItems.cons qi0 (allItems.cons qia trivial))))))))))))))))))) ?_
      rintro W h1
      clear spa cpa0 cpa1 cpa2 cpa3 cpa4 fpa0 fpa1 fpa2 fpa3 fpa4
      clear spb cpb0 cpb1 cpb2 cpb3 cpb4 fpb0 fpb1 fpb2 fpb3 fpb4
      clear sh ch0 ch1 ch2 fh0 fh1 fh2
      clear stwo ctwo0 ctwo1 ctwo2
      clear stur ctur0 ctur1 ctur2
      clear sgap cgap0 cgap1 fgap0 fgap1
      replace hB := hB.trans (h1.mono hB.size)
      replace rpa := Row.below rpa h1
      replace rpb := Row.below rpb h1
      replace rh := Row.below rh h1
      replace rtwo := Row.below rtwo h1
      replace rtur := Row.below rtur h1
      replace rgap := Row.below rgap h1
      replace hp2 := PAt.below hp2 h1
      replace hp4 := PAt.below hp4 h1
      clear h1
      obtain ⟨spa, cpa0, cpa1, cpa2, cpa3, cpa4, fpa0, fpa1, fpa2, fpa3, fpa4⟩ := Fpa _ rpa
      obtain ⟨spb, cpb0, cpb1, cpb2, cpb3, cpb4, fpb0, fpb1, fpb2, fpb3, fpb4⟩ := Fpb _ rpb
      obtain ⟨sh, ch0, ch1, ch2, fh0, fh1, fh2⟩ := Fh _ rh
      obtain ⟨stwo, ctwo0, ctwo1, ctwo2⟩ := Ftwo _ rtwo
      obtain ⟨stur, ctur0, ctur1, ctur2⟩ := Ftur _ rtur
      obtain ⟨sgap, cgap0, cgap1, fgap0, fgap1⟩ := Fgap _ rgap
      simp only [setItems, List.setIfInBounds_toArray, List.set_cons_succ, List.set_cons_zero, List.take_succ_cons, List.take_zero, List.drop_succ_cons, List.drop_zero]
      rintro _ ⟨pd, rfl, hd, rd⟩
      replace dpa_d := Nat.lt_of_lt_of_le dpa_d hd
      replace dpb_d := Nat.lt_of_lt_of_le dpb_d hd
      replace dh_d := Nat.lt_of_lt_of_le dh_d hd
      replace dtwo_d := Nat.lt_of_lt_of_le dtwo_d hd
      replace dtur_d := Nat.lt_of_lt_of_le dtur_d hd
      replace dgap_d := Nat.lt_of_lt_of_le dgap_d hd
      replace d0_d := Nat.le_trans d0_d hd
      have Fd : ∀ X, Row X pd (.cells #[.string ⟨#[]⟩, .string ⟨#[]⟩] 26) → (pd < X.heap.size ∧ X.cell? ⟨pd, 0, none⟩ = some (.string ⟨#[]⟩) ∧ X.cell? ⟨pd, 1, none⟩ = some (.string ⟨#[]⟩) ∧ X.frozen? ⟨pd, 0, none⟩ = false ∧ X.frozen? ⟨pd, 1, none⟩ = false) := fun X h => ⟨h.1, Row.cell_at h 0 rfl, Row.cell_at h 1 rfl, frozen_of_row _ _ 0 _ _ h.2, frozen_of_row _ _ 1 _ _ h.2⟩
      obtain ⟨sd, cd0, cd1, fd0, fd1⟩ := Fd _ rd
      intro _
      go_wp2_with fail
      unfold normalQ
      go_upto_region 20 with fail
      clear Fh
      have sB := hB.size
      refine wp_cut (fun X => Below w.heap.size w X ∧ Row X ppa (.cells #[.int .i64 (a.t : Int), .string (S a.iv.lo.num), .string (S (a.iv.lo.den : Int)), .string (S a.iv.hi.num), .string (S (a.iv.hi.den : Int))] 53) ∧ Row X ppb (.cells #[.int .i64 (b.t : Int), .string (S b.iv.lo.num), .string (S (b.iv.lo.den : Int)), .string (S b.iv.hi.num), .string (S (b.iv.hi.den : Int))] 53) ∧ Row X W8.heap.size (.cells #[.string (S r.num), .string (S (r.den : Int)), .slice p2 2 c2] 49) ∧ Row X W12.heap.size (.cells #[.string (S r.num), .string (S (r.den : Int)), .slice p4 2 c4] 49) ∧ Row X W17.heap.size (.cells #[.string (S gm.num), .string (S (gm.den : Int))] 26) ∧ Row X pd (.cells #[.string (S dm.num), .string (S (dm.den : Int))] 26) ∧ PAt X p2 la ∧ PAt X p4 lb) ⟨BW, RWk, RWk, RWk, RWk, RWk, RWk, (by first | with_reducible exact pat_set2 hp2 rd NER | with_reducible exact pat_set2 hp2 rgap NER | with_reducible exact pat_set2 hp2 rfast NEH | exact PAt.below hp2 BW), (by first | with_reducible exact pat_set2 hp4 rd NER | with_reducible exact pat_set2 hp4 rgap NER | with_reducible exact pat_set2 hp4 rfast NEH | exact PAt.below hp4 BW)⟩ ?_
      clear rpa
      clear spa cpa0 cpa1 cpa2 cpa3 cpa4 fpa0 fpa1 fpa2 fpa3 fpa4
      clear rpb
      clear spb cpb0 cpb1 cpb2 cpb3 cpb4 fpb0 fpb1 fpb2 fpb3 fpb4
      clear rh
      clear sh ch0 ch1 ch2 fh0 fh1 fh2
      clear rtwo
      clear stwo ctwo0 ctwo1 ctwo2
      clear rtur
      clear stur ctur0 ctur1 ctur2
      clear rgap
      clear sgap cgap0 cgap1 fgap0 fgap1
      clear rd
      clear sd cd0 cd1 fd0 fd1
      clear hB sB hp2 hp4
      rintro V23 ⟨hB, rpa, rpb, rtwo, rtur, rgap, rd, hp2, hp4⟩
      obtain ⟨spa, cpa0, cpa1, cpa2, cpa3, cpa4, fpa0, fpa1, fpa2, fpa3, fpa4⟩ := Fpa _ rpa
      obtain ⟨spb, cpb0, cpb1, cpb2, cpb3, cpb4, fpb0, fpb1, fpb2, fpb3, fpb4⟩ := Fpb _ rpb
      obtain ⟨stwo, ctwo0, ctwo1, ctwo2⟩ := Ftwo _ rtwo
      obtain ⟨stur, ctur0, ctur1, ctur2⟩ := Ftur _ rtur
      obtain ⟨sgap, cgap0, cgap1, fgap0, fgap1⟩ := Fgap _ rgap
      clear Fd
      have Fd : ∀ X, Row X pd (.cells #[.string (S dm.num), .string (S (dm.den : Int))] 26) → (pd < X.heap.size ∧ X.cell? ⟨pd, 0, none⟩ = some (.string (S dm.num)) ∧ X.cell? ⟨pd, 1, none⟩ = some (.string (S (dm.den : Int))) ∧ X.frozen? ⟨pd, 0, none⟩ = false ∧ X.frozen? ⟨pd, 1, none⟩ = false) := fun X h => ⟨h.1, Row.cell_at h 0 rfl, Row.cell_at h 1 rfl, frozen_of_row _ _ 0 _ _ h.2, frozen_of_row _ _ 1 _ _ h.2⟩
      obtain ⟨sd, cd0, cd1, fd0, fd1⟩ := Fd _ rd
      go_wp2_with fail
      have dpa_fast : ppa < V23.heap.size := by omega
      have dpb_fast : ppb < V23.heap.size := by omega
      have dtur_fast : W12.heap.size < V23.heap.size := by omega
      have dgap_fast : W17.heap.size < V23.heap.size := by omega
      have dd_fast : pd < V23.heap.size := by omega
      have d0_fast : w.heap.size ≤ V23.heap.size := by have := hB.size; omega
      clear Ftwo
      have sB := hB.size
      refine world_cut (fun X => Below w.heap.size w X ∧ Row X ppa (.cells #[.int .i64 (a.t : Int), .string (S a.iv.lo.num), .string (S (a.iv.lo.den : Int)), .string (S a.iv.hi.num), .string (S (a.iv.hi.den : Int))] 53) ∧ Row X ppb (.cells #[.int .i64 (b.t : Int), .string (S b.iv.lo.num), .string (S (b.iv.lo.den : Int)), .string (S b.iv.hi.num), .string (S (b.iv.hi.den : Int))] 53) ∧ Row X W12.heap.size (.cells #[.string (S r.num), .string (S (r.den : Int)), .slice p4 2 c4] 49) ∧ Row X W17.heap.size (.cells #[.string (S gm.num), .string (S (gm.den : Int))] 26) ∧ Row X pd (.cells #[.string (S dm.num), .string (S (dm.den : Int))] 26) ∧ Row X V23.heap.size (.cells #[.string (S r.num), .string (S (r.den : Int)), .slice p2 2 c2] 49) ∧ PAt X p2 la ∧ PAt X p4 lb) ⟨BW, RWk, RWk, RWk, RWk, RWk, RWk, (by first | with_reducible exact pat_set2 hp2 rd NER | with_reducible exact pat_set2 hp2 rgap NER | with_reducible exact pat_set2 hp2 rfast NEH | exact PAt.below hp2 BW), (by first | with_reducible exact pat_set2 hp4 rd NER | with_reducible exact pat_set2 hp4 rgap NER | with_reducible exact pat_set2 hp4 rfast NEH | exact PAt.below hp4 BW)⟩ ?_
      clear rpa
      clear spa cpa0 cpa1 cpa2 cpa3 cpa4 fpa0 fpa1 fpa2 fpa3 fpa4
      clear rpb
      clear spb cpb0 cpb1 cpb2 cpb3 cpb4 fpb0 fpb1 fpb2 fpb3 fpb4
      clear rtwo
      clear stwo ctwo0 ctwo1 ctwo2
      clear rtur
      clear stur ctur0 ctur1 ctur2
      clear rgap
      clear sgap cgap0 cgap1 fgap0 fgap1
      clear rd
      clear sd cd0 cd1 fd0 fd1
      clear hB sB hp2 hp4
      rintro V24 ⟨hB, rpa, rpb, rtur, rgap, rd, rfast, hp2, hp4⟩
      obtain ⟨spa, cpa0, cpa1, cpa2, cpa3, cpa4, fpa0, fpa1, fpa2, fpa3, fpa4⟩ := Fpa _ rpa
      obtain ⟨spb, cpb0, cpb1, cpb2, cpb3, cpb4, fpb0, fpb1, fpb2, fpb3, fpb4⟩ := Fpb _ rpb
      obtain ⟨stur, ctur0, ctur1, ctur2⟩ := Ftur _ rtur
      obtain ⟨sgap, cgap0, cgap1, fgap0, fgap1⟩ := Fgap _ rgap
      obtain ⟨sd, cd0, cd1, fd0, fd1⟩ := Fd _ rd
      have Ffast : ∀ X, Row X V23.heap.size (.cells #[.string (S r.num), .string (S (r.den : Int)), .slice p2 2 c2] 49) → (V23.heap.size < X.heap.size ∧ X.cell? ⟨V23.heap.size, 0, none⟩ = some (.string (S r.num)) ∧ X.cell? ⟨V23.heap.size, 1, none⟩ = some (.string (S (r.den : Int))) ∧ X.cell? ⟨V23.heap.size, 2, none⟩ = some (.slice p2 2 c2) ∧ X.frozen? ⟨V23.heap.size, 0, none⟩ = false ∧ X.frozen? ⟨V23.heap.size, 1, none⟩ = false ∧ X.frozen? ⟨V23.heap.size, 2, none⟩ = false) := fun X h => ⟨h.1, Row.cell_at h 0 rfl, Row.cell_at h 1 rfl, Row.cell_at h 2 rfl, frozen_of_row _ _ 0 _ _ h.2, frozen_of_row _ _ 1 _ _ h.2, frozen_of_row _ _ 2 _ _ h.2⟩
      obtain ⟨sfast, cfast0, cfast1, cfast2, ffast0, ffast1, ffast2⟩ := Ffast _ rfast
      refine (MF _ (he.below hB)).mono ?_
      rintro e W25 ⟨rfl, h1⟩
      clear spa cpa0 cpa1 cpa2 cpa3 cpa4 fpa0 fpa1 fpa2 fpa3 fpa4
      clear spb cpb0 cpb1 cpb2 cpb3 cpb4 fpb0 fpb1 fpb2 fpb3 fpb4
      clear stur ctur0 ctur1 ctur2
      clear sgap cgap0 cgap1 fgap0 fgap1
      clear sd cd0 cd1 fd0 fd1
      clear sfast cfast0 cfast1 cfast2 ffast0 ffast1 ffast2
      replace hB := hB.trans (h1.mono hB.size)
      replace rpa := Row.below rpa h1
      replace rpb := Row.below rpb h1
      replace rtur := Row.below rtur h1
      replace rgap := Row.below rgap h1
      replace rd := Row.below rd h1
      replace rfast := Row.below rfast h1
      replace hp2 := PAt.below hp2 h1
      replace hp4 := PAt.below hp4 h1
      clear h1
      obtain ⟨spa, cpa0, cpa1, cpa2, cpa3, cpa4, fpa0, fpa1, fpa2, fpa3, fpa4⟩ := Fpa _ rpa
      obtain ⟨spb, cpb0, cpb1, cpb2, cpb3, cpb4, fpb0, fpb1, fpb2, fpb3, fpb4⟩ := Fpb _ rpb
      obtain ⟨stur, ctur0, ctur1, ctur2⟩ := Ftur _ rtur
      obtain ⟨sgap, cgap0, cgap1, fgap0, fgap1⟩ := Fgap _ rgap
      obtain ⟨sd, cd0, cd1, fd0, fd1⟩ := Fd _ rd
      obtain ⟨sfast, cfast0, cfast1, cfast2, ffast0, ffast1, ffast2⟩ := Ffast _ rfast
      by_cases hbr : (a.t : Int) = (b.t : Int)
      · have HB := Lib.hid hbr
        clear hbr
        go_upto_region 22 with fail
        have sB := hB.size
        refine wp_cut (fun X => Below w.heap.size w X ∧ Row X ppa (.cells #[.int .i64 (a.t : Int), .string (S a.iv.lo.num), .string (S (a.iv.lo.den : Int)), .string (S a.iv.hi.num), .string (S (a.iv.hi.den : Int))] 53) ∧ Row X ppb (.cells #[.int .i64 (b.t : Int), .string (S b.iv.lo.num), .string (S (b.iv.lo.den : Int)), .string (S b.iv.hi.num), .string (S (b.iv.hi.den : Int))] 53) ∧ Row X W12.heap.size (.cells #[.string (S r.num), .string (S (r.den : Int)), .slice p4 2 c4] 49) ∧ Row X W17.heap.size (.cells #[.string (S gm.num), .string (S (gm.den : Int))] 26) ∧ Row X pd (.cells #[.string (S dm.num), .string (S (dm.den : Int))] 26) ∧ Row X V23.heap.size (.cells #[.string (S fr.num), .string (S (fr.den : Int)), .slice p2 2 c2] 49) ∧ PAt X p2 la ∧ PAt X p4 lb) ⟨BW, RWk, RWk, RWk, RWk, RWk, RWk, (by first | with_reducible exact pat_set2 hp2 rd NER | with_reducible exact pat_set2 hp2 rgap NER | with_reducible exact pat_set2 hp2 rfast NEH | exact PAt.below hp2 BW), (by first | with_reducible exact pat_set2 hp4 rd NER | with_reducible exact pat_set2 hp4 rgap NER | with_reducible exact pat_set2 hp4 rfast NEH | exact PAt.below hp4 BW)⟩ ?_
        clear rpa
        clear spa cpa0 cpa1 cpa2 cpa3 cpa4 fpa0 fpa1 fpa2 fpa3 fpa4
        clear rpb
        clear spb cpb0 cpb1 cpb2 cpb3 cpb4 fpb0 fpb1 fpb2 fpb3 fpb4
        clear rtur
        clear stur ctur0 ctur1 ctur2
        clear rgap
        clear sgap cgap0 cgap1 fgap0 fgap1
        clear rd
        clear sd cd0 cd1 fd0 fd1
        clear rfast
        clear sfast cfast0 cfast1 cfast2 ffast0 ffast1 ffast2
        clear hB sB hp2 hp4
        rintro V26 ⟨hB, rpa, rpb, rtur, rgap, rd, rfast, hp2, hp4⟩
        obtain ⟨spa, cpa0, cpa1, cpa2, cpa3, cpa4, fpa0, fpa1, fpa2, fpa3, fpa4⟩ := Fpa _ rpa
        obtain ⟨spb, cpb0, cpb1, cpb2, cpb3, cpb4, fpb0, fpb1, fpb2, fpb3, fpb4⟩ := Fpb _ rpb
        obtain ⟨stur, ctur0, ctur1, ctur2⟩ := Ftur _ rtur
        obtain ⟨sgap, cgap0, cgap1, fgap0, fgap1⟩ := Fgap _ rgap
        obtain ⟨sd, cd0, cd1, fd0, fd1⟩ := Fd _ rd
        clear Ffast
        have Ffast : ∀ X, Row X V23.heap.size (.cells #[.string (S fr.num), .string (S (fr.den : Int)), .slice p2 2 c2] 49) → (V23.heap.size < X.heap.size ∧ X.cell? ⟨V23.heap.size, 0, none⟩ = some (.string (S fr.num)) ∧ X.cell? ⟨V23.heap.size, 1, none⟩ = some (.string (S (fr.den : Int))) ∧ X.cell? ⟨V23.heap.size, 2, none⟩ = some (.slice p2 2 c2) ∧ X.frozen? ⟨V23.heap.size, 0, none⟩ = false ∧ X.frozen? ⟨V23.heap.size, 1, none⟩ = false ∧ X.frozen? ⟨V23.heap.size, 2, none⟩ = false) := fun X h => ⟨h.1, Row.cell_at h 0 rfl, Row.cell_at h 1 rfl, Row.cell_at h 2 rfl, frozen_of_row _ _ 0 _ _ h.2, frozen_of_row _ _ 1 _ _ h.2, frozen_of_row _ _ 2 _ _ h.2⟩
        obtain ⟨sfast, cfast0, cfast1, cfast2, ffast0, ffast1, ffast2⟩ := Ffast _ rfast
        refine wp_region_vals_seq [.pointer (some ⟨ppa, 0, none⟩), .int .i64 (a.t : Int), .pointer (some ⟨ppb, 0, none⟩), .int .i64 (b.t : Int), .bool false, .bool false] (by kernel_rfl) rfl (allVals.cons qv0 (allVals.cons (qv1 fun X h => Fpa X (Row.below rpa h)) (allVals.cons qv0 (allVals.cons (qv1 fun X h => Fpb X (Row.below rpb h)) (allVals.cons (qvf HB.out) (allVals.cons qv0 trivial)))))) ?_
        rintro W h1
        clear spa cpa0 cpa1 cpa2 cpa3 cpa4 fpa0 fpa1 fpa2 fpa3 fpa4
        clear spb cpb0 cpb1 cpb2 cpb3 cpb4 fpb0 fpb1 fpb2 fpb3 fpb4
        clear stur ctur0 ctur1 ctur2
        clear sgap cgap0 cgap1 fgap0 fgap1
        clear sd cd0 cd1 fd0 fd1
        clear sfast cfast0 cfast1 cfast2 ffast0 ffast1 ffast2
        replace hB := hB.trans (h1.mono hB.size)
        replace rpa := Row.below rpa h1
        replace rpb := Row.below rpb h1
        replace rtur := Row.below rtur h1
        replace rgap := Row.below rgap h1
        replace rd := Row.below rd h1
        replace rfast := Row.below rfast h1
        replace hp2 := PAt.below hp2 h1
        replace hp4 := PAt.below hp4 h1
        clear h1
        obtain ⟨spa, cpa0, cpa1, cpa2, cpa3, cpa4, fpa0, fpa1, fpa2, fpa3, fpa4⟩ := Fpa _ rpa
        obtain ⟨spb, cpb0, cpb1, cpb2, cpb3, cpb4, fpb0, fpb1, fpb2, fpb3, fpb4⟩ := Fpb _ rpb
        obtain ⟨stur, ctur0, ctur1, ctur2⟩ := Ftur _ rtur
        obtain ⟨sgap, cgap0, cgap1, fgap0, fgap1⟩ := Fgap _ rgap
        obtain ⟨sd, cd0, cd1, fd0, fd1⟩ := Fd _ rd
        obtain ⟨sfast, cfast0, cfast1, cfast2, ffast0, ffast1, ffast2⟩ := Ffast _ rfast
        simp only [setVals, List.setIfInBounds_toArray, List.set_cons_succ, List.set_cons_zero]
        go_wp2_with fail
        clear rpa
        clear spa cpa0 cpa1 cpa2 cpa3 cpa4 fpa0 fpa1 fpa2 fpa3 fpa4
        clear Fpa
        clear rpb
        clear spb cpb0 cpb1 cpb2 cpb3 cpb4 fpb0 fpb1 fpb2 fpb3 fpb4
        clear Fpb
        clear rgap
        clear sgap cgap0 cgap1 fgap0 fgap1
        clear Fgap
        clear rd
        clear sd cd0 cd1 fd0 fd1
        clear Fd
        refine (MX _ (he.below hB)).mono ?_
        rintro e W27 ⟨rfl, h1⟩
        clear stur ctur0 ctur1 ctur2
        clear sfast cfast0 cfast1 cfast2 ffast0 ffast1 ffast2
        replace hB := hB.trans (h1.mono hB.size)
        replace rtur := Row.below rtur h1
        replace rfast := Row.below rfast h1
        replace hp2 := PAt.below hp2 h1
        replace hp4 := PAt.below hp4 h1
        clear h1
        obtain ⟨stur, ctur0, ctur1, ctur2⟩ := Ftur _ rtur
        obtain ⟨sfast, cfast0, cfast1, cfast2, ffast0, ffast1, ffast2⟩ := Ffast _ rfast
        go_wp2_with fail
        clear rtur
        clear stur ctur0 ctur1 ctur2
        clear Ftur
        refine (C4 _ _ _ hp4 (he.below hB)).mono ?_
        rintro e W28 ⟨v, rfl, ⟨p6, c6, rfl⟩, h1⟩
        clear sfast cfast0 cfast1 cfast2 ffast0 ffast1 ffast2
        replace hB := hB.trans (h1.mono hB.size)
        replace rfast := Row.below rfast h1
        replace hp2 := PAt.below hp2 h1
        replace hp4 := PAt.below hp4 h1
        clear h1
        obtain ⟨sfast, cfast0, cfast1, cfast2, ffast0, ffast1, ffast2⟩ := Ffast _ rfast
        go_wp2
        go_ret
        exact ⟨by first | rfl | (simp [hcx]; done) | (simp [go_sem, hcx]; done), hB⟩
      · have HB := Lib.hid hbr
        replace C5 := C5 (fun h => hbr (by rw [h]))
        clear hbr
        go_upto_region 22 with fail
        have sB := hB.size
        refine wp_cut (fun X => Below w.heap.size w X ∧ Row X ppa (.cells #[.int .i64 (a.t : Int), .string (S a.iv.lo.num), .string (S (a.iv.lo.den : Int)), .string (S a.iv.hi.num), .string (S (a.iv.hi.den : Int))] 53) ∧ Row X ppb (.cells #[.int .i64 (b.t : Int), .string (S b.iv.lo.num), .string (S (b.iv.lo.den : Int)), .string (S b.iv.hi.num), .string (S (b.iv.hi.den : Int))] 53) ∧ Row X W12.heap.size (.cells #[.string (S r.num), .string (S (r.den : Int)), .slice p4 2 c4] 49) ∧ Row X W17.heap.size (.cells #[.string (S gm.num), .string (S (gm.den : Int))] 26) ∧ Row X pd (.cells #[.string (S dm.num), .string (S (dm.den : Int))] 26) ∧ Row X V23.heap.size (.cells #[.string (S fr.num), .string (S (fr.den : Int)), .slice p2 2 c2] 49) ∧ PAt X p2 la ∧ PAt X p4 lb) ⟨BW, RWk, RWk, RWk, RWk, RWk, RWk, (by first | with_reducible exact pat_set2 hp2 rd NER | with_reducible exact pat_set2 hp2 rgap NER | with_reducible exact pat_set2 hp2 rfast NEH | exact PAt.below hp2 BW), (by first | with_reducible exact pat_set2 hp4 rd NER | with_reducible exact pat_set2 hp4 rgap NER | with_reducible exact pat_set2 hp4 rfast NEH | exact PAt.below hp4 BW)⟩ ?_
        clear rpa
        clear spa cpa0 cpa1 cpa2 cpa3 cpa4 fpa0 fpa1 fpa2 fpa3 fpa4
        clear rpb
        clear spb cpb0 cpb1 cpb2 cpb3 cpb4 fpb0 fpb1 fpb2 fpb3 fpb4
        clear rtur
        clear stur ctur0 ctur1 ctur2
        clear rgap
        clear sgap cgap0 cgap1 fgap0 fgap1
        clear rd
        clear sd cd0 cd1 fd0 fd1
        clear rfast
        clear sfast cfast0 cfast1 cfast2 ffast0 ffast1 ffast2
        clear hB sB hp2 hp4
        rintro V26 ⟨hB, rpa, rpb, rtur, rgap, rd, rfast, hp2, hp4⟩
        obtain ⟨spa, cpa0, cpa1, cpa2, cpa3, cpa4, fpa0, fpa1, fpa2, fpa3, fpa4⟩ := Fpa _ rpa
        obtain ⟨spb, cpb0, cpb1, cpb2, cpb3, cpb4, fpb0, fpb1, fpb2, fpb3, fpb4⟩ := Fpb _ rpb
        obtain ⟨stur, ctur0, ctur1, ctur2⟩ := Ftur _ rtur
        obtain ⟨sgap, cgap0, cgap1, fgap0, fgap1⟩ := Fgap _ rgap
        obtain ⟨sd, cd0, cd1, fd0, fd1⟩ := Fd _ rd
        clear Ffast
        have Ffast : ∀ X, Row X V23.heap.size (.cells #[.string (S fr.num), .string (S (fr.den : Int)), .slice p2 2 c2] 49) → (V23.heap.size < X.heap.size ∧ X.cell? ⟨V23.heap.size, 0, none⟩ = some (.string (S fr.num)) ∧ X.cell? ⟨V23.heap.size, 1, none⟩ = some (.string (S (fr.den : Int))) ∧ X.cell? ⟨V23.heap.size, 2, none⟩ = some (.slice p2 2 c2) ∧ X.frozen? ⟨V23.heap.size, 0, none⟩ = false ∧ X.frozen? ⟨V23.heap.size, 1, none⟩ = false ∧ X.frozen? ⟨V23.heap.size, 2, none⟩ = false) := fun X h => ⟨h.1, Row.cell_at h 0 rfl, Row.cell_at h 1 rfl, Row.cell_at h 2 rfl, frozen_of_row _ _ 0 _ _ h.2, frozen_of_row _ _ 1 _ _ h.2, frozen_of_row _ _ 2 _ _ h.2⟩
        obtain ⟨sfast, cfast0, cfast1, cfast2, ffast0, ffast1, ffast2⟩ := Ffast _ rfast
        refine wp_region_vals_seq [.pointer (some ⟨ppa, 0, none⟩), .int .i64 (a.t : Int), .pointer (some ⟨ppb, 0, none⟩), .int .i64 (b.t : Int), .bool true, .bool true] (by kernel_rfl) rfl (allVals.cons qv0 (allVals.cons (qv1 fun X h => Fpa X (Row.below rpa h)) (allVals.cons qv0 (allVals.cons (qv1 fun X h => Fpb X (Row.below rpb h)) (allVals.cons (qvf HB.out) (allVals.cons qv0 trivial)))))) ?_
        rintro W h1
        clear spa cpa0 cpa1 cpa2 cpa3 cpa4 fpa0 fpa1 fpa2 fpa3 fpa4
        clear spb cpb0 cpb1 cpb2 cpb3 cpb4 fpb0 fpb1 fpb2 fpb3 fpb4
        clear stur ctur0 ctur1 ctur2
        clear sgap cgap0 cgap1 fgap0 fgap1
        clear sd cd0 cd1 fd0 fd1
        clear sfast cfast0 cfast1 cfast2 ffast0 ffast1 ffast2
        replace hB := hB.trans (h1.mono hB.size)
        replace rpa := Row.below rpa h1
        replace rpb := Row.below rpb h1
        replace rtur := Row.below rtur h1
        replace rgap := Row.below rgap h1
        replace rd := Row.below rd h1
        replace rfast := Row.below rfast h1
        replace hp2 := PAt.below hp2 h1
        replace hp4 := PAt.below hp4 h1
        clear h1
        obtain ⟨spa, cpa0, cpa1, cpa2, cpa3, cpa4, fpa0, fpa1, fpa2, fpa3, fpa4⟩ := Fpa _ rpa
        obtain ⟨spb, cpb0, cpb1, cpb2, cpb3, cpb4, fpb0, fpb1, fpb2, fpb3, fpb4⟩ := Fpb _ rpb
        obtain ⟨stur, ctur0, ctur1, ctur2⟩ := Ftur _ rtur
        obtain ⟨sgap, cgap0, cgap1, fgap0, fgap1⟩ := Fgap _ rgap
        obtain ⟨sd, cd0, cd1, fd0, fd1⟩ := Fd _ rd
        obtain ⟨sfast, cfast0, cfast1, cfast2, ffast0, ffast1, ffast2⟩ := Ffast _ rfast
        simp only [setVals, List.setIfInBounds_toArray, List.set_cons_succ, List.set_cons_zero]
        go_wp2_with fail
        clear rpa
        clear spa cpa0 cpa1 cpa2 cpa3 cpa4 fpa0 fpa1 fpa2 fpa3 fpa4
        clear Fpa
        clear rpb
        clear spb cpb0 cpb1 cpb2 cpb3 cpb4 fpb0 fpb1 fpb2 fpb3 fpb4
        clear Fpb
        clear rgap
        clear sgap cgap0 cgap1 fgap0 fgap1
        clear Fgap
        clear rd
        clear sd cd0 cd1 fd0 fd1
        clear Fd
        refine (MX _ (he.below hB)).mono ?_
        rintro e W27 ⟨rfl, h1⟩
        clear stur ctur0 ctur1 ctur2
        clear sfast cfast0 cfast1 cfast2 ffast0 ffast1 ffast2
        replace hB := hB.trans (h1.mono hB.size)
        replace rtur := Row.below rtur h1
        replace rfast := Row.below rfast h1
        replace hp2 := PAt.below hp2 h1
        replace hp4 := PAt.below hp4 h1
        clear h1
        obtain ⟨stur, ctur0, ctur1, ctur2⟩ := Ftur _ rtur
        obtain ⟨sfast, cfast0, cfast1, cfast2, ffast0, ffast1, ffast2⟩ := Ffast _ rfast
        go_wp2_with fail
        clear rtur
        clear stur ctur0 ctur1 ctur2
        clear Ftur
        refine (C4 _ _ _ hp4 (he.below hB)).mono ?_
        rintro e W28 ⟨v, rfl, ⟨p6, c6, rfl⟩, h1⟩
        clear sfast cfast0 cfast1 cfast2 ffast0 ffast1 ffast2
        replace hB := hB.trans (h1.mono hB.size)
        replace rfast := Row.below rfast h1
        replace hp2 := PAt.below hp2 h1
        replace hp4 := PAt.below hp4 h1
        clear h1
        obtain ⟨sfast, cfast0, cfast1, cfast2, ffast0, ffast1, ffast2⟩ := Ffast _ rfast
        go_wp2_with fail
        clear rfast
        clear sfast cfast0 cfast1 cfast2 ffast0 ffast1 ffast2
        clear Ffast
        refine (C5 _ _ _ hp2 (he.below hB)).mono ?_
        rintro e W29 ⟨v, rfl, ⟨p7, c7, rfl⟩, h1⟩
        replace hB := hB.trans (h1.mono hB.size)
        replace hp2 := PAt.below hp2 h1
        replace hp4 := PAt.below hp4 h1
        clear h1
        go_wp2
        go_ret
        exact ⟨by first | rfl | (simp [hcx]; done) | (simp [go_sem, hcx]; done), hB⟩
  · have n2 : (cons ⟨r, la⟩).length = 0 := by rw [HN2.out, if_neg hc]
    have n4 : (cons ⟨r, lb⟩).length = 0 := by rw [HN4.out, if_neg (fun h => hc (HCC.out.1 h))]
    replace C2 := C2 _ n2
    replace C4 := C4 _ n4
    have hcx : ¬ (0 < cmpQ gm dm) := fun h => hc (HC.out.2 h)
    replace DA := DA hc
    clear DB n2 n4 hc
    go_wp2_with fail
    have dpa_tur : ppa < W12.heap.size := by omega
    have dpb_tur : ppb < W12.heap.size := by omega
    have dh_tur : ph < W12.heap.size := by omega
    have sB := hB.size
    refine world_cut (fun X => Below w.heap.size w X ∧ Row X ppa (.cells #[.int .i64 (a.t : Int), .string (S a.iv.lo.num), .string (S (a.iv.lo.den : Int)), .string (S a.iv.hi.num), .string (S (a.iv.hi.den : Int))] 53) ∧ Row X ppb (.cells #[.int .i64 (b.t : Int), .string (S b.iv.lo.num), .string (S (b.iv.lo.den : Int)), .string (S b.iv.hi.num), .string (S (b.iv.hi.den : Int))] 53) ∧ Row X ph (.cells #[.string (S r.num), .string (S (r.den : Int)), .slice none 0 0] 49) ∧ Row X W8.heap.size (.cells #[.string (S r.num), .string (S (r.den : Int)), .slice p2 2 c2] 49) ∧ Row X W12.heap.size (.cells #[.string (S r.num), .string (S (r.den : Int)), .slice p4 2 c4] 49) ∧ PAt X p2 la ∧ PAt X p4 lb) ⟨BW, RWk, RWk, RWk, RWk, RWk, (by first | with_reducible exact pat_set2 hp2 rd NER | with_reducible exact pat_set2 hp2 rgap NER | with_reducible exact pat_set2 hp2 rfast NEH | exact PAt.below hp2 BW), (by first | with_reducible exact pat_set2 hp4 rd NER | with_reducible exact pat_set2 hp4 rgap NER | with_reducible exact pat_set2 hp4 rfast NEH | exact PAt.below hp4 BW)⟩ ?_
    clear rpa
    clear spa cpa0 cpa1 cpa2 cpa3 cpa4 fpa0 fpa1 fpa2 fpa3 fpa4
    clear rpb
    clear spb cpb0 cpb1 cpb2 cpb3 cpb4 fpb0 fpb1 fpb2 fpb3 fpb4
    clear rh
    clear sh ch0 ch1 ch2 fh0 fh1 fh2
    clear rtwo
    clear stwo ctwo0 ctwo1 ctwo2
    clear hB sB hp2 hp4
    rintro V13 ⟨hB, rpa, rpb, rh, rtwo, rtur, hp2, hp4⟩
    obtain ⟨spa, cpa0, cpa1, cpa2, cpa3, cpa4, fpa0, fpa1, fpa2, fpa3, fpa4⟩ := Fpa _ rpa
    obtain ⟨spb, cpb0, cpb1, cpb2, cpb3, cpb4, fpb0, fpb1, fpb2, fpb3, fpb4⟩ := Fpb _ rpb
    obtain ⟨sh, ch0, ch1, ch2, fh0, fh1, fh2⟩ := Fh _ rh
    obtain ⟨stwo, ctwo0, ctwo1, ctwo2⟩ := Ftwo _ rtwo
    have Ftur : ∀ X, Row X W12.heap.size (.cells #[.string (S r.num), .string (S (r.den : Int)), .slice p4 2 c4] 49) → (W12.heap.size < X.heap.size ∧ X.cell? ⟨W12.heap.size, 0, none⟩ = some (.string (S r.num)) ∧ X.cell? ⟨W12.heap.size, 1, none⟩ = some (.string (S (r.den : Int))) ∧ X.cell? ⟨W12.heap.size, 2, none⟩ = some (.slice p4 2 c4)) := fun X h => ⟨h.1, Row.cell_at h 0 rfl, Row.cell_at h 1 rfl, Row.cell_at h 2 rfl⟩
    obtain ⟨stur, ctur0, ctur1, ctur2⟩ := Ftur _ rtur
    refine (C2 _ _ _ hp2 (he.below hB)).mono ?_
    rintro e W14 ⟨v, rfl, ⟨p5, c5, rfl⟩, h1⟩
    clear spa cpa0 cpa1 cpa2 cpa3 cpa4 fpa0 fpa1 fpa2 fpa3 fpa4
    clear spb cpb0 cpb1 cpb2 cpb3 cpb4 fpb0 fpb1 fpb2 fpb3 fpb4
    clear sh ch0 ch1 ch2 fh0 fh1 fh2
    clear stwo ctwo0 ctwo1 ctwo2
    clear stur ctur0 ctur1 ctur2
    replace hB := hB.trans (h1.mono hB.size)
    replace rpa := Row.below rpa h1
    replace rpb := Row.below rpb h1
    replace rh := Row.below rh h1
    replace rtwo := Row.below rtwo h1
    replace rtur := Row.below rtur h1
    replace hp2 := PAt.below hp2 h1
    replace hp4 := PAt.below hp4 h1
    clear h1
    obtain ⟨spa, cpa0, cpa1, cpa2, cpa3, cpa4, fpa0, fpa1, fpa2, fpa3, fpa4⟩ := Fpa _ rpa
    obtain ⟨spb, cpb0, cpb1, cpb2, cpb3, cpb4, fpb0, fpb1, fpb2, fpb3, fpb4⟩ := Fpb _ rpb
    obtain ⟨sh, ch0, ch1, ch2, fh0, fh1, fh2⟩ := Fh _ rh
    obtain ⟨stwo, ctwo0, ctwo1, ctwo2⟩ := Ftwo _ rtwo
    obtain ⟨stur, ctur0, ctur1, ctur2⟩ := Ftur _ rtur
    go_wp2_with fail
    refine (DA _ _ _ hp2 (he.below hB)).mono ?_
    rintro e W15 ⟨o, _, rfl, h1⟩
    clear spa cpa0 cpa1 cpa2 cpa3 cpa4 fpa0 fpa1 fpa2 fpa3 fpa4
    clear spb cpb0 cpb1 cpb2 cpb3 cpb4 fpb0 fpb1 fpb2 fpb3 fpb4
    clear sh ch0 ch1 ch2 fh0 fh1 fh2
    clear stwo ctwo0 ctwo1 ctwo2
    clear stur ctur0 ctur1 ctur2
    replace hB := hB.trans (h1.mono hB.size)
    replace rpa := Row.below rpa h1
    replace rpb := Row.below rpb h1
    replace rh := Row.below rh h1
    replace rtwo := Row.below rtwo h1
    replace rtur := Row.below rtur h1
    replace hp2 := PAt.below hp2 h1
    replace hp4 := PAt.below hp4 h1
    clear h1
    obtain ⟨spa, cpa0, cpa1, cpa2, cpa3, cpa4, fpa0, fpa1, fpa2, fpa3, fpa4⟩ := Fpa _ rpa
    obtain ⟨spb, cpb0, cpb1, cpb2, cpb3, cpb4, fpb0, fpb1, fpb2, fpb3, fpb4⟩ := Fpb _ rpb
    obtain ⟨sh, ch0, ch1, ch2, fh0, fh1, fh2⟩ := Fh _ rh
    obtain ⟨stwo, ctwo0, ctwo1, ctwo2⟩ := Ftwo _ rtwo
    obtain ⟨stur, ctur0, ctur1, ctur2⟩ := Ftur _ rtur
    go_wp2_with fail
    have sB := hB.size
    refine world_cut (fun X => Below w.heap.size w X ∧ Row X ppa (.cells #[.int .i64 (a.t : Int), .string (S a.iv.lo.num), .string (S (a.iv.lo.den : Int)), .string (S a.iv.hi.num), .string (S (a.iv.hi.den : Int))] 53) ∧ Row X ppb (.cells #[.int .i64 (b.t : Int), .string (S b.iv.lo.num), .string (S (b.iv.lo.den : Int)), .string (S b.iv.hi.num), .string (S (b.iv.hi.den : Int))] 53) ∧ Row X ph (.cells #[.string (S r.num), .string (S (r.den : Int)), .slice none 0 0] 49) ∧ Row X W8.heap.size (.cells #[.string (S r.num), .string (S (r.den : Int)), .slice p2 2 c2] 49) ∧ Row X W12.heap.size (.cells #[.string (S r.num), .string (S (r.den : Int)), .slice p4 2 c4] 49) ∧ PAt X p2 la ∧ PAt X p4 lb) ⟨BW, RWk, RWk, RWk, RWk, RWk, (by first | with_reducible exact pat_set2 hp2 rd NER | with_reducible exact pat_set2 hp2 rgap NER | with_reducible exact pat_set2 hp2 rfast NEH | exact PAt.below hp2 BW), (by first | with_reducible exact pat_set2 hp4 rd NER | with_reducible exact pat_set2 hp4 rgap NER | with_reducible exact pat_set2 hp4 rfast NEH | exact PAt.below hp4 BW)⟩ ?_
    clear rpa
    clear spa cpa0 cpa1 cpa2 cpa3 cpa4 fpa0 fpa1 fpa2 fpa3 fpa4
    clear rpb
    clear spb cpb0 cpb1 cpb2 cpb3 cpb4 fpb0 fpb1 fpb2 fpb3 fpb4
    clear rh
    clear sh ch0 ch1 ch2 fh0 fh1 fh2
    clear rtwo
    clear stwo ctwo0 ctwo1 ctwo2
    clear rtur
    clear stur ctur0 ctur1 ctur2
    clear hB sB hp2 hp4
    rintro V16 ⟨hB, rpa, rpb, rh, rtwo, rtur, hp2, hp4⟩
    obtain ⟨spa, cpa0, cpa1, cpa2, cpa3, cpa4, fpa0, fpa1, fpa2, fpa3, fpa4⟩ := Fpa _ rpa
    obtain ⟨spb, cpb0, cpb1, cpb2, cpb3, cpb4, fpb0, fpb1, fpb2, fpb3, fpb4⟩ := Fpb _ rpb
    obtain ⟨sh, ch0, ch1, ch2, fh0, fh1, fh2⟩ := Fh _ rh
    obtain ⟨stwo, ctwo0, ctwo1, ctwo2⟩ := Ftwo _ rtwo
    obtain ⟨stur, ctur0, ctur1, ctur2⟩ := Ftur _ rtur
    refine (MG _ (he.below hB)).mono ?_
    rintro e W17 ⟨rfl, h1⟩
    clear spa cpa0 cpa1 cpa2 cpa3 cpa4 fpa0 fpa1 fpa2 fpa3 fpa4
    clear spb cpb0 cpb1 cpb2 cpb3 cpb4 fpb0 fpb1 fpb2 fpb3 fpb4
    clear sh ch0 ch1 ch2 fh0 fh1 fh2
    clear stwo ctwo0 ctwo1 ctwo2
    clear stur ctur0 ctur1 ctur2
    replace hB := hB.trans (h1.mono hB.size)
    replace rpa := Row.below rpa h1
    replace rpb := Row.below rpb h1
    replace rh := Row.below rh h1
    replace rtwo := Row.below rtwo h1
    replace rtur := Row.below rtur h1
    replace hp2 := PAt.below hp2 h1
    replace hp4 := PAt.below hp4 h1
    clear h1
    obtain ⟨spa, cpa0, cpa1, cpa2, cpa3, cpa4, fpa0, fpa1, fpa2, fpa3, fpa4⟩ := Fpa _ rpa
    obtain ⟨spb, cpb0, cpb1, cpb2, cpb3, cpb4, fpb0, fpb1, fpb2, fpb3, fpb4⟩ := Fpb _ rpb
    obtain ⟨sh, ch0, ch1, ch2, fh0, fh1, fh2⟩ := Fh _ rh
    obtain ⟨stwo, ctwo0, ctwo1, ctwo2⟩ := Ftwo _ rtwo
    obtain ⟨stur, ctur0, ctur1, ctur2⟩ := Ftur _ rtur
    go_wp2_with fail
    have dpa_gap : ppa < W17.heap.size := by omega
    have dpb_gap : ppb < W17.heap.size := by omega
    have dh_gap : ph < W17.heap.size := by omega
    have dtwo_gap : W8.heap.size < W17.heap.size := by omega
    have dtur_gap : W12.heap.size < W17.heap.size := by omega
    have d0_gap : w.heap.size ≤ W17.heap.size := by have := hB.size; omega
    have sB := hB.size
    refine world_cut (fun X => Below w.heap.size w X ∧ Row X ppa (.cells #[.int .i64 (a.t : Int), .string (S a.iv.lo.num), .string (S (a.iv.lo.den : Int)), .string (S a.iv.hi.num), .string (S (a.iv.hi.den : Int))] 53) ∧ Row X ppb (.cells #[.int .i64 (b.t : Int), .string (S b.iv.lo.num), .string (S (b.iv.lo.den : Int)), .string (S b.iv.hi.num), .string (S (b.iv.hi.den : Int))] 53) ∧ Row X ph (.cells #[.string (S r.num), .string (S (r.den : Int)), .slice none 0 0] 49) ∧ Row X W8.heap.size (.cells #[.string (S r.num), .string (S (r.den : Int)), .slice p2 2 c2] 49) ∧ Row X W12.heap.size (.cells #[.string (S r.num), .string (S (r.den : Int)), .slice p4 2 c4] 49) ∧ Row X W17.heap.size (.cells #[.string (S g1.num), .string (S (g1.den : Int))] 26) ∧ PAt X p2 la ∧ PAt X p4 lb) ⟨BW, RWk, RWk, RWk, RWk, RWk, RWk, (by first | with_reducible exact pat_set2 hp2 rd NER | with_reducible exact pat_set2 hp2 rgap NER | with_reducible exact pat_set2 hp2 rfast NEH | exact PAt.below hp2 BW), (by first | with_reducible exact pat_set2 hp4 rd NER | with_reducible exact pat_set2 hp4 rgap NER | with_reducible exact pat_set2 hp4 rfast NEH | exact PAt.below hp4 BW)⟩ ?_
    clear rpa
    clear spa cpa0 cpa1 cpa2 cpa3 cpa4 fpa0 fpa1 fpa2 fpa3 fpa4
    clear rpb
    clear spb cpb0 cpb1 cpb2 cpb3 cpb4 fpb0 fpb1 fpb2 fpb3 fpb4
    clear rh
    clear sh ch0 ch1 ch2 fh0 fh1 fh2
    clear rtwo
    clear stwo ctwo0 ctwo1 ctwo2
    clear rtur
    clear stur ctur0 ctur1 ctur2
    clear hB sB hp2 hp4
    rintro V18 ⟨hB, rpa, rpb, rh, rtwo, rtur, rgap, hp2, hp4⟩
    obtain ⟨spa, cpa0, cpa1, cpa2, cpa3, cpa4, fpa0, fpa1, fpa2, fpa3, fpa4⟩ := Fpa _ rpa
    obtain ⟨spb, cpb0, cpb1, cpb2, cpb3, cpb4, fpb0, fpb1, fpb2, fpb3, fpb4⟩ := Fpb _ rpb
    obtain ⟨sh, ch0, ch1, ch2, fh0, fh1, fh2⟩ := Fh _ rh
    obtain ⟨stwo, ctwo0, ctwo1, ctwo2⟩ := Ftwo _ rtwo
    obtain ⟨stur, ctur0, ctur1, ctur2⟩ := Ftur _ rtur
    have Fgap : ∀ X, Row X W17.heap.size (.cells #[.string (S g1.num), .string (S (g1.den : Int))] 26) → (W17.heap.size < X.heap.size ∧ X.cell? ⟨W17.heap.size, 0, none⟩ = some (.string (S g1.num)) ∧ X.cell? ⟨W17.heap.size, 1, none⟩ = some (.string (S (g1.den : Int))) ∧ X.frozen? ⟨W17.heap.size, 0, none⟩ = false ∧ X.frozen? ⟨W17.heap.size, 1, none⟩ = false) := fun X h => ⟨h.1, Row.cell_at h 0 rfl, Row.cell_at h 1 rfl, frozen_of_row _ _ 0 _ _ h.2, frozen_of_row _ _ 1 _ _ h.2⟩
    obtain ⟨sgap, cgap0, cgap1, fgap0, fgap1⟩ := Fgap _ rgap
    refine (MH _ (he.below hB)).mono ?_
    rintro e W19 ⟨rfl, h1⟩
    clear spa cpa0 cpa1 cpa2 cpa3 cpa4 fpa0 fpa1 fpa2 fpa3 fpa4
    clear spb cpb0 cpb1 cpb2 cpb3 cpb4 fpb0 fpb1 fpb2 fpb3 fpb4
    clear sh ch0 ch1 ch2 fh0 fh1 fh2
    clear stwo ctwo0 ctwo1 ctwo2
    clear stur ctur0 ctur1 ctur2
    clear sgap cgap0 cgap1 fgap0 fgap1
    replace hB := hB.trans (h1.mono hB.size)
    replace rpa := Row.below rpa h1
    replace rpb := Row.below rpb h1
    replace rh := Row.below rh h1
    replace rtwo := Row.below rtwo h1
    replace rtur := Row.below rtur h1
    replace rgap := Row.below rgap h1
    replace hp2 := PAt.below hp2 h1
    replace hp4 := PAt.below hp4 h1
    clear h1
    obtain ⟨spa, cpa0, cpa1, cpa2, cpa3, cpa4, fpa0, fpa1, fpa2, fpa3, fpa4⟩ := Fpa _ rpa
    obtain ⟨spb, cpb0, cpb1, cpb2, cpb3, cpb4, fpb0, fpb1, fpb2, fpb3, fpb4⟩ := Fpb _ rpb
    obtain ⟨sh, ch0, ch1, ch2, fh0, fh1, fh2⟩ := Fh _ rh
    obtain ⟨stwo, ctwo0, ctwo1, ctwo2⟩ := Ftwo _ rtwo
    obtain ⟨stur, ctur0, ctur1, ctur2⟩ := Ftur _ rtur
    obtain ⟨sgap, cgap0, cgap1, fgap0, fgap1⟩ := Fgap _ rgap
    go_wp2_with fail
    have dpa_back : ppa < W19.heap.size := by omega
    have dpb_back : ppb < W19.heap.size := by omega
    have dh_back : ph < W19.heap.size := by omega
    have dgap_back : W17.heap.size < W19.heap.size := by omega
    have sB := hB.size
    refine world_cut (fun X => Below w.heap.size w X ∧ Row X ppa (.cells #[.int .i64 (a.t : Int), .string (S a.iv.lo.num), .string (S (a.iv.lo.den : Int)), .string (S a.iv.hi.num), .string (S (a.iv.hi.den : Int))] 53) ∧ Row X ppb (.cells #[.int .i64 (b.t : Int), .string (S b.iv.lo.num), .string (S (b.iv.lo.den : Int)), .string (S b.iv.hi.num), .string (S (b.iv.hi.den : Int))] 53) ∧ Row X ph (.cells #[.string (S r.num), .string (S (r.den : Int)), .slice none 0 0] 49) ∧ Row X W8.heap.size (.cells #[.string (S r.num), .string (S (r.den : Int)), .slice p2 2 c2] 49) ∧ Row X W12.heap.size (.cells #[.string (S r.num), .string (S (r.den : Int)), .slice p4 2 c4] 49) ∧ Row X W17.heap.size (.cells #[.string (S g1.num), .string (S (g1.den : Int))] 26) ∧ Row X W19.heap.size (.cells #[.string (S g2.num), .string (S (g2.den : Int))] 26) ∧ PAt X p2 la ∧ PAt X p4 lb) ⟨BW, RWk, RWk, RWk, RWk, RWk, RWk, RWk, (by first | with_reducible exact pat_set2 hp2 rd NER | with_reducible exact pat_set2 hp2 rgap NER | with_reducible exact pat_set2 hp2 rfast NEH | exact PAt.below hp2 BW), (by first | with_reducible exact pat_set2 hp4 rd NER | with_reducible exact pat_set2 hp4 rgap NER | with_reducible exact pat_set2 hp4 rfast NEH | exact PAt.below hp4 BW)⟩ ?_
    clear rpa
    clear spa cpa0 cpa1 cpa2 cpa3 cpa4 fpa0 fpa1 fpa2 fpa3 fpa4
    clear rpb
    clear spb cpb0 cpb1 cpb2 cpb3 cpb4 fpb0 fpb1 fpb2 fpb3 fpb4
    clear rh
    clear sh ch0 ch1 ch2 fh0 fh1 fh2
    clear rtwo
    clear stwo ctwo0 ctwo1 ctwo2
    clear rtur
    clear stur ctur0 ctur1 ctur2
    clear rgap
    clear sgap cgap0 cgap1 fgap0 fgap1
    clear hB sB hp2 hp4
    rintro V20 ⟨hB, rpa, rpb, rh, rtwo, rtur, rgap, rback, hp2, hp4⟩
    obtain ⟨spa, cpa0, cpa1, cpa2, cpa3, cpa4, fpa0, fpa1, fpa2, fpa3, fpa4⟩ := Fpa _ rpa
    obtain ⟨spb, cpb0, cpb1, cpb2, cpb3, cpb4, fpb0, fpb1, fpb2, fpb3, fpb4⟩ := Fpb _ rpb
    obtain ⟨sh, ch0, ch1, ch2, fh0, fh1, fh2⟩ := Fh _ rh
    obtain ⟨stwo, ctwo0, ctwo1, ctwo2⟩ := Ftwo _ rtwo
    obtain ⟨stur, ctur0, ctur1, ctur2⟩ := Ftur _ rtur
    obtain ⟨sgap, cgap0, cgap1, fgap0, fgap1⟩ := Fgap _ rgap
    have Fback : ∀ X, Row X W19.heap.size (.cells #[.string (S g2.num), .string (S (g2.den : Int))] 26) → (W19.heap.size < X.heap.size ∧ X.cell? ⟨W19.heap.size, 0, none⟩ = some (.string (S g2.num)) ∧ X.cell? ⟨W19.heap.size, 1, none⟩ = some (.string (S (g2.den : Int)))) := fun X h => ⟨h.1, Row.cell_at h 0 rfl, Row.cell_at h 1 rfl⟩
    obtain ⟨sback, cback0, cback1⟩ := Fback _ rback
    refine (MCM _ (he.below hB)).mono ?_
    rintro e W21 ⟨rfl, h1⟩
    clear spa cpa0 cpa1 cpa2 cpa3 cpa4 fpa0 fpa1 fpa2 fpa3 fpa4
    clear spb cpb0 cpb1 cpb2 cpb3 cpb4 fpb0 fpb1 fpb2 fpb3 fpb4
    clear sh ch0 ch1 ch2 fh0 fh1 fh2
    clear stwo ctwo0 ctwo1 ctwo2
    clear stur ctur0 ctur1 ctur2
    clear sgap cgap0 cgap1 fgap0 fgap1
    clear sback cback0 cback1
    replace hB := hB.trans (h1.mono hB.size)
    replace rpa := Row.below rpa h1
    replace rpb := Row.below rpb h1
    replace rh := Row.below rh h1
    replace rtwo := Row.below rtwo h1
    replace rtur := Row.below rtur h1
    replace rgap := Row.below rgap h1
    replace rback := Row.below rback h1
    replace hp2 := PAt.below hp2 h1
    replace hp4 := PAt.below hp4 h1
    clear h1
    obtain ⟨spa, cpa0, cpa1, cpa2, cpa3, cpa4, fpa0, fpa1, fpa2, fpa3, fpa4⟩ := Fpa _ rpa
    obtain ⟨spb, cpb0, cpb1, cpb2, cpb3, cpb4, fpb0, fpb1, fpb2, fpb3, fpb4⟩ := Fpb _ rpb
    obtain ⟨sh, ch0, ch1, ch2, fh0, fh1, fh2⟩ := Fh _ rh
    obtain ⟨stwo, ctwo0, ctwo1, ctwo2⟩ := Ftwo _ rtwo
    obtain ⟨stur, ctur0, ctur1, ctur2⟩ := Ftur _ rtur
    obtain ⟨sgap, cgap0, cgap1, fgap0, fgap1⟩ := Fgap _ rgap
    obtain ⟨sback, cback0, cback1⟩ := Fback _ rback
    go_upto_if 150 with fail
    go_cut [] (fun W => Below w.heap.size w W ∧ Row W ppa (.cells #[.int .i64 (a.t : Int), .string (S a.iv.lo.num), .string (S (a.iv.lo.den : Int)), .string (S a.iv.hi.num), .string (S (a.iv.hi.den : Int))] 53) ∧ Row W ppb (.cells #[.int .i64 (b.t : Int), .string (S b.iv.lo.num), .string (S (b.iv.lo.den : Int)), .string (S b.iv.hi.num), .string (S (b.iv.hi.den : Int))] 53) ∧ Row W ph (.cells #[.string (S r.num), .string (S (r.den : Int)), .slice none 0 0] 49) ∧ Row W W8.heap.size (.cells #[.string (S r.num), .string (S (r.den : Int)), .slice p2 2 c2] 49) ∧ Row W W12.heap.size (.cells #[.string (S r.num), .string (S (r.den : Int)), .slice p4 2 c4] 49) ∧ Row W W17.heap.size (.cells #[.string (S gm.num), .string (S (gm.den : Int))] 26) ∧ Row W W19.heap.size (.cells #[.string (S g2.num), .string (S (g2.den : Int))] 26) ∧ PAt W p2 la ∧ PAt W p4 lb)
    case first =>
      by_cases hcc : 0 < cmpQ g2 g1
      · have E9 := Lib.hid (HGM.out.trans (if_pos hcc))
        go_wp2
        go_meet
        case rel => rw [E9.out]; exact ⟨BW, RWk, RWk, RWk, RWk, RWk, RWk, RWk, (by first | with_reducible exact pat_set2 hp2 rd NER | with_reducible exact pat_set2 hp2 rgap NER | with_reducible exact pat_set2 hp2 rfast NEH | exact PAt.below hp2 BW), (by first | with_reducible exact pat_set2 hp4 rd NER | with_reducible exact pat_set2 hp4 rgap NER | with_reducible exact pat_set2 hp4 rfast NEH | exact PAt.below hp4 BW)⟩
      · have E9 := Lib.hid (HGM.out.trans (if_neg hcc))
        go_wp2
        go_meet
        case rel => rw [E9.out]; exact ⟨BW, RWk, RWk, RWk, RWk, RWk, RWk, RWk, (by first | with_reducible exact pat_set2 hp2 rd NER | with_reducible exact pat_set2 hp2 rgap NER | with_reducible exact pat_set2 hp2 rfast NEH | exact PAt.below hp2 BW), (by first | with_reducible exact pat_set2 hp4 rd NER | with_reducible exact pat_set2 hp4 rgap NER | with_reducible exact pat_set2 hp4 rfast NEH | exact PAt.below hp4 BW)⟩
    case rest =>
      clear hB rpa rpb rh rtwo rtur rgap rback hp2 hp4
      clear spa cpa0 cpa1 cpa2 cpa3 cpa4 fpa0 fpa1 fpa2 fpa3 fpa4
      clear spb cpb0 cpb1 cpb2 cpb3 cpb4 fpb0 fpb1 fpb2 fpb3 fpb4
      clear sh ch0 ch1 ch2 fh0 fh1 fh2
      clear stwo ctwo0 ctwo1 ctwo2
      clear stur ctur0 ctur1 ctur2
      clear sgap cgap0 cgap1 fgap0 fgap1
      clear sback cback0 cback1
      obtain ⟨hB, rpa, rpb, rh, rtwo, rtur, rgap, rback, hp2, hp4⟩ := hcut
      skip
      obtain ⟨spa, cpa0, cpa1, cpa2, cpa3, cpa4, fpa0, fpa1, fpa2, fpa3, fpa4⟩ := Fpa _ rpa
      obtain ⟨spb, cpb0, cpb1, cpb2, cpb3, cpb4, fpb0, fpb1, fpb2, fpb3, fpb4⟩ := Fpb _ rpb
      obtain ⟨sh, ch0, ch1, ch2, fh0, fh1, fh2⟩ := Fh _ rh
      obtain ⟨stwo, ctwo0, ctwo1, ctwo2⟩ := Ftwo _ rtwo
      obtain ⟨stur, ctur0, ctur1, ctur2⟩ := Ftur _ rtur
      clear Fgap
      have Fgap : ∀ X, Row X W17.heap.size (.cells #[.string (S gm.num), .string (S (gm.den : Int))] 26) → (W17.heap.size < X.heap.size ∧ X.cell? ⟨W17.heap.size, 0, none⟩ = some (.string (S gm.num)) ∧ X.cell? ⟨W17.heap.size, 1, none⟩ = some (.string (S (gm.den : Int))) ∧ X.frozen? ⟨W17.heap.size, 0, none⟩ = false ∧ X.frozen? ⟨W17.heap.size, 1, none⟩ = false) := fun X h => ⟨h.1, Row.cell_at h 0 rfl, Row.cell_at h 1 rfl, frozen_of_row _ _ 0 _ _ h.2, frozen_of_row _ _ 1 _ _ h.2⟩
      obtain ⟨sgap, cgap0, cgap1, fgap0, fgap1⟩ := Fgap _ rgap
      obtain ⟨sback, cback0, cback1⟩ := Fback _ rback
      go_wp2_with fail
      clear rback
      clear sback cback0 cback1
      clear Fback
      have dpa_d := rpa.1
      have dpb_d := rpb.1
      have dh_d := rh.1
      have dtwo_d := rtwo.1
      have dtur_d := rtur.1
      have dgap_d := rgap.1
      have d0_d := hB.size
      refine wp_region_late 19 [17] [.val (.pointer (some ⟨ph, 0, none⟩)), .val (.agg #[.string (S r.num), .string (S (r.den : Int))]), .val (.pointer (some ⟨ppa, 0, none⟩)), .val (.int .i64 (a.t : Int)), .val (.pointer (some ⟨ppb, 0, none⟩)), .val (.int .i64 (b.t : Int)), .val (.int .i64 ((a.t : Int) - (b.t : Int))), .val (.pointer (some ⟨ppb, 0, none⟩)), .val (.int .i64 (b.t : Int)), .val (.pointer (some ⟨ppa, 0, none⟩)), .val (.int .i64 (a.t : Int)), .val (.int .i64 ((b.t : Int) - (a.t : Int))), .val (.int .i64 dd), .val (.agg #[.string (S fd.num), .string (S (fd.den : Int))]), .val (.tuple #[.agg #[.string (S dm.num), .string (S (dm.den : Int))], .int .i64 0]), .val (.tuple #[.agg #[.string (S dm.num), .string (S (dm.den : Int))], .int .i64 0]), .val (.agg #[.string (S dm.num), .string (S (dm.den : Int))]), .val (.int .i64 0), .say (fresh _ (.cells #[.string ⟨#[]⟩, .string ⟨#[]⟩] 26))] [26] (by kernel_rfl) (by kernel_rfl) (by kernel_rfl) rfl ⟨fresh_mono _ _, trivial⟩ (allItems.cons qi0 (allItems.cons (qi1 fun X h => Fh X (Row.below rh h)) (allItems.cons qi0 (allItems.cons (qi1 fun X h => Fpa X (Row.below rpa h)) (allItems.cons qi0 (allItems.cons (qi1 fun X h => Fpb X (Row.below rpb h)) (allItems.cons (qif hs1) (allItems.cons qi0 (allItems.cons (qi1 fun X h => Fpb X (Row.below rpb h)) (allItems.cons qi0 (allItems.cons (qi1 fun X h => Fpa X (Row.below rpa h)) (allItems.cons (qif hs2) (allItems.cons (qif hmx) (allItems.cons (qi2 fun X h => MO X (he.below (hB.trans (h.mono hB.size)))) (allItems.cons (qi2 fun X h => MM X (he.below (hB.trans (h.mono hB.size)))) (allItems.cons qi0 (allItems.cons qi0 (allItems.cons qi0 (allItems.cons qia trivial))))))))))))))))))) ?_
      rintro W h1
      clear spa cpa0 cpa1 cpa2 cpa3 cpa4 fpa0 fpa1 fpa2 fpa3 fpa4
      clear spb cpb0 cpb1 cpb2 cpb3 cpb4 fpb0 fpb1 fpb2 fpb3 fpb4
      clear sh ch0 ch1 ch2 fh0 fh1 fh2
      clear stwo ctwo0 ctwo1 ctwo2
      clear stur ctur0 ctur1 ctur2
      clear sgap cgap0 cgap1 fgap0 fgap1
      replace hB := hB.trans (h1.mono hB.size)
      replace rpa := Row.below rpa h1
      replace rpb := Row.below rpb h1
      replace rh := Row.below rh h1
      replace rtwo := Row.below rtwo h1
      replace rtur := Row.below rtur h1
      replace rgap := Row.below rgap h1
      replace hp2 := PAt.below hp2 h1
      replace hp4 := PAt.below hp4 h1
      clear h1
      obtain ⟨spa, cpa0, cpa1, cpa2, cpa3, cpa4, fpa0, fpa1, fpa2, fpa3, fpa4⟩ := Fpa _ rpa
      obtain ⟨spb, cpb0, cpb1, cpb2, cpb3, cpb4, fpb0, fpb1, fpb2, fpb3, fpb4⟩ := Fpb _ rpb
      obtain ⟨sh, ch0, ch1, ch2, fh0, fh1, fh2⟩ := Fh _ rh
      obtain ⟨stwo, ctwo0, ctwo1, ctwo2⟩ := Ftwo _ rtwo
      obtain ⟨stur, ctur0, ctur1, ctur2⟩ := Ftur _ rtur
      obtain ⟨sgap, cgap0, cgap1, fgap0, fgap1⟩ := Fgap _ rgap
      simp only [setItems, List.setIfInBounds_toArray, List.set_cons_succ, List.set_cons_zero, List.take_succ_cons, List.take_zero, List.drop_succ_cons, List.drop_zero]
      rintro _ ⟨pd, rfl, hd, rd⟩
      replace dpa_d := Nat.lt_of_lt_of_le dpa_d hd
      replace dpb_d := Nat.lt_of_lt_of_le dpb_d hd
      replace dh_d := Nat.lt_of_lt_of_le dh_d hd
      replace dtwo_d := Nat.lt_of_lt_of_le dtwo_d hd
      replace dtur_d := Nat.lt_of_lt_of_le dtur_d hd
      replace dgap_d := Nat.lt_of_lt_of_le dgap_d hd
      replace d0_d := Nat.le_trans d0_d hd
      have Fd : ∀ X, Row X pd (.cells #[.string ⟨#[]⟩, .string ⟨#[]⟩] 26) → (pd < X.heap.size ∧ X.cell? ⟨pd, 0, none⟩ = some (.string ⟨#[]⟩) ∧ X.cell? ⟨pd, 1, none⟩ = some (.string ⟨#[]⟩) ∧ X.frozen? ⟨pd, 0, none⟩ = false ∧ X.frozen? ⟨pd, 1, none⟩ = false) := fun X h => ⟨h.1, Row.cell_at h 0 rfl, Row.cell_at h 1 rfl, frozen_of_row _ _ 0 _ _ h.2, frozen_of_row _ _ 1 _ _ h.2⟩
      obtain ⟨sd, cd0, cd1, fd0, fd1⟩ := Fd _ rd
      intro _
      go_wp2_with fail
      unfold normalQ
      go_upto_region 20 with fail
      clear Fh
      have sB := hB.size
      refine wp_cut (fun X => Below w.heap.size w X ∧ Row X ppa (.cells #[.int .i64 (a.t : Int), .string (S a.iv.lo.num), .string (S (a.iv.lo.den : Int)), .string (S a.iv.hi.num), .string (S (a.iv.hi.den : Int))] 53) ∧ Row X ppb (.cells #[.int .i64 (b.t : Int), .string (S b.iv.lo.num), .string (S (b.iv.lo.den : Int)), .string (S b.iv.hi.num), .string (S (b.iv.hi.den : Int))] 53) ∧ Row X W8.heap.size (.cells #[.string (S r.num), .string (S (r.den : Int)), .slice p2 2 c2] 49) ∧ Row X W12.heap.size (.cells #[.string (S r.num), .string (S (r.den : Int)), .slice p4 2 c4] 49) ∧ Row X W17.heap.size (.cells #[.string (S gm.num), .string (S (gm.den : Int))] 26) ∧ Row X pd (.cells #[.string (S dm.num), .string (S (dm.den : Int))] 26) ∧ PAt X p2 la ∧ PAt X p4 lb) ⟨BW, RWk, RWk, RWk, RWk, RWk, RWk, (by first | with_reducible exact pat_set2 hp2 rd NER | with_reducible exact pat_set2 hp2 rgap NER | with_reducible exact pat_set2 hp2 rfast NEH | exact PAt.below hp2 BW), (by first | with_reducible exact pat_set2 hp4 rd NER | with_reducible exact pat_set2 hp4 rgap NER | with_reducible exact pat_set2 hp4 rfast NEH | exact PAt.below hp4 BW)⟩ ?_
      clear rpa
      clear spa cpa0 cpa1 cpa2 cpa3 cpa4 fpa0 fpa1 fpa2 fpa3 fpa4
      clear rpb
      clear spb cpb0 cpb1 cpb2 cpb3 cpb4 fpb0 fpb1 fpb2 fpb3 fpb4
      clear rh
      clear sh ch0 ch1 ch2 fh0 fh1 fh2
      clear rtwo
      clear stwo ctwo0 ctwo1 ctwo2
      clear rtur
      clear stur ctur0 ctur1 ctur2
      clear rgap
      clear sgap cgap0 cgap1 fgap0 fgap1
      clear rd
      clear sd cd0 cd1 fd0 fd1
      clear hB sB hp2 hp4
      rintro V23 ⟨hB, rpa, rpb, rtwo, rtur, rgap, rd, hp2, hp4⟩
      obtain ⟨spa, cpa0, cpa1, cpa2, cpa3, cpa4, fpa0, fpa1, fpa2, fpa3, fpa4⟩ := Fpa _ rpa
      obtain ⟨spb, cpb0, cpb1, cpb2, cpb3, cpb4, fpb0, fpb1, fpb2, fpb3, fpb4⟩ := Fpb _ rpb
      obtain ⟨stwo, ctwo0, ctwo1, ctwo2⟩ := Ftwo _ rtwo
      obtain ⟨stur, ctur0, ctur1, ctur2⟩ := Ftur _ rtur
      obtain ⟨sgap, cgap0, cgap1, fgap0, fgap1⟩ := Fgap _ rgap
      clear Fd
      have Fd : ∀ X, Row X pd (.cells #[.string (S dm.num), .string (S (dm.den : Int))] 26) → (pd < X.heap.size ∧ X.cell? ⟨pd, 0, none⟩ = some (.string (S dm.num)) ∧ X.cell? ⟨pd, 1, none⟩ = some (.string (S (dm.den : Int))) ∧ X.frozen? ⟨pd, 0, none⟩ = false ∧ X.frozen? ⟨pd, 1, none⟩ = false) := fun X h => ⟨h.1, Row.cell_at h 0 rfl, Row.cell_at h 1 rfl, frozen_of_row _ _ 0 _ _ h.2, frozen_of_row _ _ 1 _ _ h.2⟩
      obtain ⟨sd, cd0, cd1, fd0, fd1⟩ := Fd _ rd
      go_wp2_with fail
      have dpa_fast : ppa < V23.heap.size := by omega
      have dpb_fast : ppb < V23.heap.size := by omega
      have dtur_fast : W12.heap.size < V23.heap.size := by omega
      have dgap_fast : W17.heap.size < V23.heap.size := by omega
      have dd_fast : pd < V23.heap.size := by omega
      have d0_fast : w.heap.size ≤ V23.heap.size := by have := hB.size; omega
      clear Ftwo
      have sB := hB.size
      refine world_cut (fun X => Below w.heap.size w X ∧ Row X ppa (.cells #[.int .i64 (a.t : Int), .string (S a.iv.lo.num), .string (S (a.iv.lo.den : Int)), .string (S a.iv.hi.num), .string (S (a.iv.hi.den : Int))] 53) ∧ Row X ppb (.cells #[.int .i64 (b.t : Int), .string (S b.iv.lo.num), .string (S (b.iv.lo.den : Int)), .string (S b.iv.hi.num), .string (S (b.iv.hi.den : Int))] 53) ∧ Row X W12.heap.size (.cells #[.string (S r.num), .string (S (r.den : Int)), .slice p4 2 c4] 49) ∧ Row X W17.heap.size (.cells #[.string (S gm.num), .string (S (gm.den : Int))] 26) ∧ Row X pd (.cells #[.string (S dm.num), .string (S (dm.den : Int))] 26) ∧ Row X V23.heap.size (.cells #[.string (S r.num), .string (S (r.den : Int)), .slice p2 2 c2] 49) ∧ PAt X p2 la ∧ PAt X p4 lb) ⟨BW, RWk, RWk, RWk, RWk, RWk, RWk, (by first | with_reducible exact pat_set2 hp2 rd NER | with_reducible exact pat_set2 hp2 rgap NER | with_reducible exact pat_set2 hp2 rfast NEH | exact PAt.below hp2 BW), (by first | with_reducible exact pat_set2 hp4 rd NER | with_reducible exact pat_set2 hp4 rgap NER | with_reducible exact pat_set2 hp4 rfast NEH | exact PAt.below hp4 BW)⟩ ?_
      clear rpa
      clear spa cpa0 cpa1 cpa2 cpa3 cpa4 fpa0 fpa1 fpa2 fpa3 fpa4
      clear rpb
      clear spb cpb0 cpb1 cpb2 cpb3 cpb4 fpb0 fpb1 fpb2 fpb3 fpb4
      clear rtwo
      clear stwo ctwo0 ctwo1 ctwo2
      clear rtur
      clear stur ctur0 ctur1 ctur2
      clear rgap
      clear sgap cgap0 cgap1 fgap0 fgap1
      clear rd
      clear sd cd0 cd1 fd0 fd1
      clear hB sB hp2 hp4
      rintro V24 ⟨hB, rpa, rpb, rtur, rgap, rd, rfast, hp2, hp4⟩
      obtain ⟨spa, cpa0, cpa1, cpa2, cpa3, cpa4, fpa0, fpa1, fpa2, fpa3, fpa4⟩ := Fpa _ rpa
      obtain ⟨spb, cpb0, cpb1, cpb2, cpb3, cpb4, fpb0, fpb1, fpb2, fpb3, fpb4⟩ := Fpb _ rpb
      obtain ⟨stur, ctur0, ctur1, ctur2⟩ := Ftur _ rtur
      obtain ⟨sgap, cgap0, cgap1, fgap0, fgap1⟩ := Fgap _ rgap
      obtain ⟨sd, cd0, cd1, fd0, fd1⟩ := Fd _ rd
      have Ffast : ∀ X, Row X V23.heap.size (.cells #[.string (S r.num), .string (S (r.den : Int)), .slice p2 2 c2] 49) → (V23.heap.size < X.heap.size ∧ X.cell? ⟨V23.heap.size, 0, none⟩ = some (.string (S r.num)) ∧ X.cell? ⟨V23.heap.size, 1, none⟩ = some (.string (S (r.den : Int))) ∧ X.cell? ⟨V23.heap.size, 2, none⟩ = some (.slice p2 2 c2) ∧ X.frozen? ⟨V23.heap.size, 0, none⟩ = false ∧ X.frozen? ⟨V23.heap.size, 1, none⟩ = false ∧ X.frozen? ⟨V23.heap.size, 2, none⟩ = false) := fun X h => ⟨h.1, Row.cell_at h 0 rfl, Row.cell_at h 1 rfl, Row.cell_at h 2 rfl, frozen_of_row _ _ 0 _ _ h.2, frozen_of_row _ _ 1 _ _ h.2, frozen_of_row _ _ 2 _ _ h.2⟩
      obtain ⟨sfast, cfast0, cfast1, cfast2, ffast0, ffast1, ffast2⟩ := Ffast _ rfast
      refine (MF _ (he.below hB)).mono ?_
      rintro e W25 ⟨rfl, h1⟩
      clear spa cpa0 cpa1 cpa2 cpa3 cpa4 fpa0 fpa1 fpa2 fpa3 fpa4
      clear spb cpb0 cpb1 cpb2 cpb3 cpb4 fpb0 fpb1 fpb2 fpb3 fpb4
      clear stur ctur0 ctur1 ctur2
      clear sgap cgap0 cgap1 fgap0 fgap1
      clear sd cd0 cd1 fd0 fd1
      clear sfast cfast0 cfast1 cfast2 ffast0 ffast1 ffast2
      replace hB := hB.trans (h1.mono hB.size)
      replace rpa := Row.below rpa h1
      replace rpb := Row.below rpb h1
      replace rtur := Row.below rtur h1
      replace rgap := Row.below rgap h1
      replace rd := Row.below rd h1
      replace rfast := Row.below rfast h1
      replace hp2 := PAt.below hp2 h1
      replace hp4 := PAt.below hp4 h1
      clear h1
      obtain ⟨spa, cpa0, cpa1, cpa2, cpa3, cpa4, fpa0, fpa1, fpa2, fpa3, fpa4⟩ := Fpa _ rpa
      obtain ⟨spb, cpb0, cpb1, cpb2, cpb3, cpb4, fpb0, fpb1, fpb2, fpb3, fpb4⟩ := Fpb _ rpb
      obtain ⟨stur, ctur0, ctur1, ctur2⟩ := Ftur _ rtur
      obtain ⟨sgap, cgap0, cgap1, fgap0, fgap1⟩ := Fgap _ rgap
      obtain ⟨sd, cd0, cd1, fd0, fd1⟩ := Fd _ rd
      obtain ⟨sfast, cfast0, cfast1, cfast2, ffast0, ffast1, ffast2⟩ := Ffast _ rfast
      by_cases hbr : (a.t : Int) = (b.t : Int)
      · have HB := Lib.hid hbr
        clear hbr
        go_upto_region 22 with fail
        have sB := hB.size
        refine wp_cut (fun X => Below w.heap.size w X ∧ Row X ppa (.cells #[.int .i64 (a.t : Int), .string (S a.iv.lo.num), .string (S (a.iv.lo.den : Int)), .string (S a.iv.hi.num), .string (S (a.iv.hi.den : Int))] 53) ∧ Row X ppb (.cells #[.int .i64 (b.t : Int), .string (S b.iv.lo.num), .string (S (b.iv.lo.den : Int)), .string (S b.iv.hi.num), .string (S (b.iv.hi.den : Int))] 53) ∧ Row X W12.heap.size (.cells #[.string (S r.num), .string (S (r.den : Int)), .slice p4 2 c4] 49) ∧ Row X W17.heap.size (.cells #[.string (S gm.num), .string (S (gm.den : Int))] 26) ∧ Row X pd (.cells #[.string (S dm.num), .string (S (dm.den : Int))] 26) ∧ Row X V23.heap.size (.cells #[.string (S fr.num), .string (S (fr.den : Int)), .slice p2 2 c2] 49) ∧ PAt X p2 la ∧ PAt X p4 lb) ⟨BW, RWk, RWk, RWk, RWk, RWk, RWk, (by first | with_reducible exact pat_set2 hp2 rd NER | with_reducible exact pat_set2 hp2 rgap NER | with_reducible exact pat_set2 hp2 rfast NEH | exact PAt.below hp2 BW), (by first | with_reducible exact pat_set2 hp4 rd NER | with_reducible exact pat_set2 hp4 rgap NER | with_reducible exact pat_set2 hp4 rfast NEH | exact PAt.below hp4 BW)⟩ ?_
        clear rpa
        clear spa cpa0 cpa1 cpa2 cpa3 cpa4 fpa0 fpa1 fpa2 fpa3 fpa4
        clear rpb
        clear spb cpb0 cpb1 cpb2 cpb3 cpb4 fpb0 fpb1 fpb2 fpb3 fpb4
        clear rtur
        clear stur ctur0 ctur1 ctur2
        clear rgap
        clear sgap cgap0 cgap1 fgap0 fgap1
        clear rd
        clear sd cd0 cd1 fd0 fd1
        clear rfast
        clear sfast cfast0 cfast1 cfast2 ffast0 ffast1 ffast2
        clear hB sB hp2 hp4
        rintro V26 ⟨hB, rpa, rpb, rtur, rgap, rd, rfast, hp2, hp4⟩
        obtain ⟨spa, cpa0, cpa1, cpa2, cpa3, cpa4, fpa0, fpa1, fpa2, fpa3, fpa4⟩ := Fpa _ rpa
        obtain ⟨spb, cpb0, cpb1, cpb2, cpb3, cpb4, fpb0, fpb1, fpb2, fpb3, fpb4⟩ := Fpb _ rpb
        obtain ⟨stur, ctur0, ctur1, ctur2⟩ := Ftur _ rtur
        obtain ⟨sgap, cgap0, cgap1, fgap0, fgap1⟩ := Fgap _ rgap
        obtain ⟨sd, cd0, cd1, fd0, fd1⟩ := Fd _ rd
        clear Ffast
        have Ffast : ∀ X, Row X V23.heap.size (.cells #[.string (S fr.num), .string (S (fr.den : Int)), .slice p2 2 c2] 49) → (V23.heap.size < X.heap.size ∧ X.cell? ⟨V23.heap.size, 0, none⟩ = some (.string (S fr.num)) ∧ X.cell? ⟨V23.heap.size, 1, none⟩ = some (.string (S (fr.den : Int))) ∧ X.cell? ⟨V23.heap.size, 2, none⟩ = some (.slice p2 2 c2) ∧ X.frozen? ⟨V23.heap.size, 0, none⟩ = false ∧ X.frozen? ⟨V23.heap.size, 1, none⟩ = false ∧ X.frozen? ⟨V23.heap.size, 2, none⟩ = false) := fun X h => ⟨h.1, Row.cell_at h 0 rfl, Row.cell_at h 1 rfl, Row.cell_at h 2 rfl, frozen_of_row _ _ 0 _ _ h.2, frozen_of_row _ _ 1 _ _ h.2, frozen_of_row _ _ 2 _ _ h.2⟩
        obtain ⟨sfast, cfast0, cfast1, cfast2, ffast0, ffast1, ffast2⟩ := Ffast _ rfast
        refine wp_region_vals_seq [.pointer (some ⟨ppa, 0, none⟩), .int .i64 (a.t : Int), .pointer (some ⟨ppb, 0, none⟩), .int .i64 (b.t : Int), .bool false, .bool false] (by kernel_rfl) rfl (allVals.cons qv0 (allVals.cons (qv1 fun X h => Fpa X (Row.below rpa h)) (allVals.cons qv0 (allVals.cons (qv1 fun X h => Fpb X (Row.below rpb h)) (allVals.cons (qvf HB.out) (allVals.cons qv0 trivial)))))) ?_
        rintro W h1
        clear spa cpa0 cpa1 cpa2 cpa3 cpa4 fpa0 fpa1 fpa2 fpa3 fpa4
        clear spb cpb0 cpb1 cpb2 cpb3 cpb4 fpb0 fpb1 fpb2 fpb3 fpb4
        clear stur ctur0 ctur1 ctur2
        clear sgap cgap0 cgap1 fgap0 fgap1
        clear sd cd0 cd1 fd0 fd1
        clear sfast cfast0 cfast1 cfast2 ffast0 ffast1 ffast2
        replace hB := hB.trans (h1.mono hB.size)
        replace rpa := Row.below rpa h1
        replace rpb := Row.below rpb h1
        replace rtur := Row.below rtur h1
        replace rgap := Row.below rgap h1
        replace rd := Row.below rd h1
        replace rfast := Row.below rfast h1
        replace hp2 := PAt.below hp2 h1
        replace hp4 := PAt.below hp4 h1
        clear h1
        obtain ⟨spa, cpa0, cpa1, cpa2, cpa3, cpa4, fpa0, fpa1, fpa2, fpa3, fpa4⟩ := Fpa _ rpa
        obtain ⟨spb, cpb0, cpb1, cpb2, cpb3, cpb4, fpb0, fpb1, fpb2, fpb3, fpb4⟩ := Fpb _ rpb
        obtain ⟨stur, ctur0, ctur1, ctur2⟩ := Ftur _ rtur
        obtain ⟨sgap, cgap0, cgap1, fgap0, fgap1⟩ := Fgap _ rgap
        obtain ⟨sd, cd0, cd1, fd0, fd1⟩ := Fd _ rd
        obtain ⟨sfast, cfast0, cfast1, cfast2, ffast0, ffast1, ffast2⟩ := Ffast _ rfast
        simp only [setVals, List.setIfInBounds_toArray, List.set_cons_succ, List.set_cons_zero]
        go_wp2_with fail
        clear rpa
        clear spa cpa0 cpa1 cpa2 cpa3 cpa4 fpa0 fpa1 fpa2 fpa3 fpa4
        clear Fpa
        clear rpb
        clear spb cpb0 cpb1 cpb2 cpb3 cpb4 fpb0 fpb1 fpb2 fpb3 fpb4
        clear Fpb
        clear rgap
        clear sgap cgap0 cgap1 fgap0 fgap1
        clear Fgap
        clear rd
        clear sd cd0 cd1 fd0 fd1
        clear Fd
        refine (MX _ (he.below hB)).mono ?_
        rintro e W27 ⟨rfl, h1⟩
        clear stur ctur0 ctur1 ctur2
        clear sfast cfast0 cfast1 cfast2 ffast0 ffast1 ffast2
        replace hB := hB.trans (h1.mono hB.size)
        replace rtur := Row.below rtur h1
        replace rfast := Row.below rfast h1
        replace hp2 := PAt.below hp2 h1
        replace hp4 := PAt.below hp4 h1
        clear h1
        obtain ⟨stur, ctur0, ctur1, ctur2⟩ := Ftur _ rtur
        obtain ⟨sfast, cfast0, cfast1, cfast2, ffast0, ffast1, ffast2⟩ := Ffast _ rfast
        go_wp2_with fail
        clear rtur
        clear stur ctur0 ctur1 ctur2
        clear Ftur
        refine (C4 _ _ _ hp4 (he.below hB)).mono ?_
        rintro e W28 ⟨v, rfl, ⟨p6, c6, rfl⟩, h1⟩
        clear sfast cfast0 cfast1 cfast2 ffast0 ffast1 ffast2
        replace hB := hB.trans (h1.mono hB.size)
        replace rfast := Row.below rfast h1
        replace hp2 := PAt.below hp2 h1
        replace hp4 := PAt.below hp4 h1
        clear h1
        obtain ⟨sfast, cfast0, cfast1, cfast2, ffast0, ffast1, ffast2⟩ := Ffast _ rfast
        go_wp2
        go_ret
        exact ⟨by first | rfl | (simp [hcx]; done) | (simp [go_sem, hcx]; done), hB⟩
      · have HB := Lib.hid hbr
        replace C5 := C5 (fun h => hbr (by rw [h]))
        clear hbr
        go_upto_region 22 with fail
        have sB := hB.size
        refine wp_cut (fun X => Below w.heap.size w X ∧ Row X ppa (.cells #[.int .i64 (a.t : Int), .string (S a.iv.lo.num), .string (S (a.iv.lo.den : Int)), .string (S a.iv.hi.num), .string (S (a.iv.hi.den : Int))] 53) ∧ Row X ppb (.cells #[.int .i64 (b.t : Int), .string (S b.iv.lo.num), .string (S (b.iv.lo.den : Int)), .string (S b.iv.hi.num), .string (S (b.iv.hi.den : Int))] 53) ∧ Row X W12.heap.size (.cells #[.string (S r.num), .string (S (r.den : Int)), .slice p4 2 c4] 49) ∧ Row X W17.heap.size (.cells #[.string (S gm.num), .string (S (gm.den : Int))] 26) ∧ Row X pd (.cells #[.string (S dm.num), .string (S (dm.den : Int))] 26) ∧ Row X V23.heap.size (.cells #[.string (S fr.num), .string (S (fr.den : Int)), .slice p2 2 c2] 49) ∧ PAt X p2 la ∧ PAt X p4 lb) ⟨BW, RWk, RWk, RWk, RWk, RWk, RWk, (by first | with_reducible exact pat_set2 hp2 rd NER | with_reducible exact pat_set2 hp2 rgap NER | with_reducible exact pat_set2 hp2 rfast NEH | exact PAt.below hp2 BW), (by first | with_reducible exact pat_set2 hp4 rd NER | with_reducible exact pat_set2 hp4 rgap NER | with_reducible exact pat_set2 hp4 rfast NEH | exact PAt.below hp4 BW)⟩ ?_
        clear rpa
        clear spa cpa0 cpa1 cpa2 cpa3 cpa4 fpa0 fpa1 fpa2 fpa3 fpa4
        clear rpb
        clear spb cpb0 cpb1 cpb2 cpb3 cpb4 fpb0 fpb1 fpb2 fpb3 fpb4
        clear rtur
        clear stur ctur0 ctur1 ctur2
        clear rgap
        clear sgap cgap0 cgap1 fgap0 fgap1
        clear rd
        clear sd cd0 cd1 fd0 fd1
        clear rfast
        clear sfast cfast0 cfast1 cfast2 ffast0 ffast1 ffast2
        clear hB sB hp2 hp4
        rintro V26 ⟨hB, rpa, rpb, rtur, rgap, rd, rfast, hp2, hp4⟩
        obtain ⟨spa, cpa0, cpa1, cpa2, cpa3, cpa4, fpa0, fpa1, fpa2, fpa3, fpa4⟩ := Fpa _ rpa
        obtain ⟨spb, cpb0, cpb1, cpb2, cpb3, cpb4, fpb0, fpb1, fpb2, fpb3, fpb4⟩ := Fpb _ rpb
        obtain ⟨stur, ctur0, ctur1, ctur2⟩ := Ftur _ rtur
        obtain ⟨sgap, cgap0, cgap1, fgap0, fgap1⟩ := Fgap _ rgap
        obtain ⟨sd, cd0, cd1, fd0, fd1⟩ := Fd _ rd
        clear Ffast
        have Ffast : ∀ X, Row X V23.heap.size (.cells #[.string (S fr.num), .string (S (fr.den : Int)), .slice p2 2 c2] 49) → (V23.heap.size < X.heap.size ∧ X.cell? ⟨V23.heap.size, 0, none⟩ = some (.string (S fr.num)) ∧ X.cell? ⟨V23.heap.size, 1, none⟩ = some (.string (S (fr.den : Int))) ∧ X.cell? ⟨V23.heap.size, 2, none⟩ = some (.slice p2 2 c2) ∧ X.frozen? ⟨V23.heap.size, 0, none⟩ = false ∧ X.frozen? ⟨V23.heap.size, 1, none⟩ = false ∧ X.frozen? ⟨V23.heap.size, 2, none⟩ = false) := fun X h => ⟨h.1, Row.cell_at h 0 rfl, Row.cell_at h 1 rfl, Row.cell_at h 2 rfl, frozen_of_row _ _ 0 _ _ h.2, frozen_of_row _ _ 1 _ _ h.2, frozen_of_row _ _ 2 _ _ h.2⟩
        obtain ⟨sfast, cfast0, cfast1, cfast2, ffast0, ffast1, ffast2⟩ := Ffast _ rfast
        refine wp_region_vals_seq [.pointer (some ⟨ppa, 0, none⟩), .int .i64 (a.t : Int), .pointer (some ⟨ppb, 0, none⟩), .int .i64 (b.t : Int), .bool true, .bool true] (by kernel_rfl) rfl (allVals.cons qv0 (allVals.cons (qv1 fun X h => Fpa X (Row.below rpa h)) (allVals.cons qv0 (allVals.cons (qv1 fun X h => Fpb X (Row.below rpb h)) (allVals.cons (qvf HB.out) (allVals.cons qv0 trivial)))))) ?_
        rintro W h1
        clear spa cpa0 cpa1 cpa2 cpa3 cpa4 fpa0 fpa1 fpa2 fpa3 fpa4
        clear spb cpb0 cpb1 cpb2 cpb3 cpb4 fpb0 fpb1 fpb2 fpb3 fpb4
        clear stur ctur0 ctur1 ctur2
        clear sgap cgap0 cgap1 fgap0 fgap1
        clear sd cd0 cd1 fd0 fd1
        clear sfast cfast0 cfast1 cfast2 ffast0 ffast1 ffast2
        replace hB := hB.trans (h1.mono hB.size)
        replace rpa := Row.below rpa h1
        replace rpb := Row.below rpb h1
        replace rtur := Row.below rtur h1
        replace rgap := Row.below rgap h1
        replace rd := Row.below rd h1
        replace rfast := Row.below rfast h1
        replace hp2 := PAt.below hp2 h1
        replace hp4 := PAt.below hp4 h1
        clear h1
        obtain ⟨spa, cpa0, cpa1, cpa2, cpa3, cpa4, fpa0, fpa1, fpa2, fpa3, fpa4⟩ := Fpa _ rpa
        obtain ⟨spb, cpb0, cpb1, cpb2, cpb3, cpb4, fpb0, fpb1, fpb2, fpb3, fpb4⟩ := Fpb _ rpb
        obtain ⟨stur, ctur0, ctur1, ctur2⟩ := Ftur _ rtur
        obtain ⟨sgap, cgap0, cgap1, fgap0, fgap1⟩ := Fgap _ rgap
        obtain ⟨sd, cd0, cd1, fd0, fd1⟩ := Fd _ rd
        obtain ⟨sfast, cfast0, cfast1, cfast2, ffast0, ffast1, ffast2⟩ := Ffast _ rfast
        simp only [setVals, List.setIfInBounds_toArray, List.set_cons_succ, List.set_cons_zero]
        go_wp2_with fail
        clear rpa
        clear spa cpa0 cpa1 cpa2 cpa3 cpa4 fpa0 fpa1 fpa2 fpa3 fpa4
        clear Fpa
        clear rpb
        clear spb cpb0 cpb1 cpb2 cpb3 cpb4 fpb0 fpb1 fpb2 fpb3 fpb4
        clear Fpb
        clear rgap
        clear sgap cgap0 cgap1 fgap0 fgap1
        clear Fgap
        clear rd
        clear sd cd0 cd1 fd0 fd1
        clear Fd
        refine (MX _ (he.below hB)).mono ?_
        rintro e W27 ⟨rfl, h1⟩
        clear stur ctur0 ctur1 ctur2
        clear sfast cfast0 cfast1 cfast2 ffast0 ffast1 ffast2
        replace hB := hB.trans (h1.mono hB.size)
        replace rtur := Row.below rtur h1
        replace rfast := Row.below rfast h1
        replace hp2 := PAt.below hp2 h1
        replace hp4 := PAt.below hp4 h1
        clear h1
        obtain ⟨stur, ctur0, ctur1, ctur2⟩ := Ftur _ rtur
        obtain ⟨sfast, cfast0, cfast1, cfast2, ffast0, ffast1, ffast2⟩ := Ffast _ rfast
        go_wp2_with fail
        clear rtur
        clear stur ctur0 ctur1 ctur2
        clear Ftur
        refine (C4 _ _ _ hp4 (he.below hB)).mono ?_
        rintro e W28 ⟨v, rfl, ⟨p6, c6, rfl⟩, h1⟩
        clear sfast cfast0 cfast1 cfast2 ffast0 ffast1 ffast2
        replace hB := hB.trans (h1.mono hB.size)
        replace rfast := Row.below rfast h1
        replace hp2 := PAt.below hp2 h1
        replace hp4 := PAt.below hp4 h1
        clear h1
        obtain ⟨sfast, cfast0, cfast1, cfast2, ffast0, ffast1, ffast2⟩ := Ffast _ rfast
        go_wp2_with fail
        clear rfast
        clear sfast cfast0 cfast1 cfast2 ffast0 ffast1 ffast2
        clear Ffast
        refine (C5 _ _ _ hp2 (he.below hB)).mono ?_
        rintro e W29 ⟨v, rfl, ⟨p7, c7, rfl⟩, h1⟩
        replace hB := hB.trans (h1.mono hB.size)
        replace hp2 := PAt.below hp2 h1
        replace hp4 := PAt.below hp4 h1
        clear h1
        go_wp2
        go_ret
        exact ⟨by first | rfl | (simp [hcx]; done) | (simp [go_sem, hcx]; done), hB⟩
end Go.Proofs.YtngohpgkceedeaaGreatDoor
