/-
  EnclosureRounds: the walk.
-/
import Derived.Test.YtngohpgkceedeaaGreatDoorSane5
import Derived.Test.YtngohpgkceedeaaGreatDoorLong
import Derived.Test.YtngohpgkceedeaaGreatDoorECallsFacts
import Derived.Test.YtngohpgkceedeaaGreatDoorShort
import Derived.Deep.RegionHeld3
import Derived.Deep.RegionWith
import Derived.Deep.DeepCutAuto
set_option linter.unusedSimpArgs false
set_option linter.unusedVariables false
namespace Go.Proofs.YtngohpgkceedeaaGreatDoor
open Go Go.RowKit Go.Lib Go.Shelf

theorem npick (c n : Int) (hc : IsInt c) (hn : 0 < n) (hn2 : n ≤ 1000000) (w : World) : Calls Tryz.prog 13 #[.int .i64 c, .int .i64 n] w fun e w' => ∃ p : Nat, (p : Int) < n ∧ e = .returned (.int .i64 (p : Int)) ∧ Below w.heap.size w w' :=
  (pickL c n hc hn hn2 w).mono fun e w' ⟨⟨r, h1, h2⟩, h3⟩ => ⟨r, h2, h1, h3 ▸ Below.refl _ _⟩
theorem nunit (i : Nat) (hi : i < 31) (w : World) (he : Env w) : Calls Tryz.prog 19 #[.agg #[.string (S (Rat.divInt 1 (TT i)).num), .string (S ((Rat.divInt 1 (TT i)).den : Int))], .agg #[.string (S (Rat.divInt 10 1).num), .string (S ((Rat.divInt 10 1).den : Int))]] w fun e w' =>
    e = .returned (.tuple #[.agg #[.string (S (Rat.divInt 1 (TT (i + 1))).num), .string (S ((Rat.divInt 1 (TT (i + 1))).den : Int))], .int .i64 0]) ∧ Below w.heap.size w w' := by
  have h := qdiv (unit_dig i) (small_dig (n := 10) (d := 1) (by decide) (by decide) (by decide)) (by omega) (by decide +kernel) w he
  have e : Rat.divInt 1 (TT i) / Rat.divInt 10 1 = Rat.divInt 1 (TT (i + 1)) := by rw [← unit_next i]; rw [show Rat.divInt 10 1 = 10 from by decide +kernel]
  rw [e] at h
  exact h
theorem round_ok {a : Iv} (h : a.Ok) (p : Nat) : (roundI a (TT p)).Ok := by
  have h1 := sub_roundI (a := a) (TT_pos p)
  exact Rat.le_trans (Rat.le_trans h1.1 h) h1.2
set_option maxRecDepth 100000 in
set_option maxHeartbeats 1000000 in
theorem qsubc {m : Nat} {a b : Rat} (ha : QDig 200 a) (hb : QDig 200 b) (dx : Dig m (a.num * (b.den : Int))) (dy : Dig m (b.num * (a.den : Int))) (dz : Dig m ((a.den : Int) * (b.den : Int))) (hm : m + 1 ≤ 200) (w : World) (he : Env w) :
    Calls Tryz.prog 20 #[Q a, Q b] w (QOk (a - b) w) := by
  have eg : ∀ args w, (callFunc 71 args).run Tryz.prog w = .ok (.enter 71 args) w := enters_of Tryz.func71 (by kernel_rfl) rfl
  have d0 : (a.den : Int) * (b.den : Int) ≠ 0 := by have := den_pos a; have := den_pos b; exact Int.ne_of_gt (Int.mul_pos (by omega) (by omega))
  have H := wsum 71 eg (a := a) (b := b) (q := a - b) ha hb (Lib.hid rfl) (Lib.hid rfl) (Lib.hid rfl) (dx.fits (by omega)) (dy.fits (by omega)) ((dx.sub dy).fits (by omega)) (dz.fits (by omega)) d0 (sub_parts a b)
    (fun W hW => subS (is_S _) (is_S _) (Lib.hid rfl) (dx.fits (by omega)) (dy.fits (by omega)) ((dx.sub dy).fits (by omega)) W hW)
  obtain ⟨r3, hB⟩ := three_rows w (.cells #[.string (S a.num), .string (S (a.den : Int))] 26) (.cells #[.string (S b.num), .string (S (b.den : Int))] 26) (.cells #[.string ⟨#[]⟩, .string ⟨#[]⟩] 26)
  have H1 := H _ (he.below hB)
  clear H dx dy dz d0
  unfold QOk at *
  show Calls Tryz.prog 20 #[.agg #[.string (S a.num), .string (S (a.den : Int))], .agg #[.string (S b.num), .string (S (b.den : Int))]] w _
  generalize hq : a - b = q at *
  go_enter Tryz.func20, Tryz.ntmps20
  go_wp2_with fail
  generalize ((w.alloc (.cells #[.string (S a.num), .string (S (a.den : Int))] 26)).alloc (.cells #[.string (S b.num), .string (S (b.den : Int))] 26)).alloc (.cells #[.string ⟨#[]⟩, .string ⟨#[]⟩] 26) = W0 at *
  refine H1.mono ?_
  rintro e W ⟨rfl, h1⟩
  replace hB := hB.trans (h1.mono hB.size)
  replace r3 := r3.below h1
  unfold Q
  obtain ⟨x1, x2, x3, x4⟩ := two_facts r3.2
  have hst := store_two r3.2 (.string (S q.num)) (.string (S (q.den : Int)))
  obtain ⟨g1, g2, _, _⟩ := two_facts hst
  have hBs := (hB.setCell (p := ⟨w.heap.size + 1 + 1, 0, none⟩) (by simp; omega) (.string (S q.num))).setCell (p := ⟨w.heap.size + 1 + 1, 1, none⟩) (by simp; omega) (.string (S (q.den : Int)))
  go_wp2
  refine bodyPost_ret (v := .tuple #[.agg #[.string (S q.num), .string (S (q.den : Int))], .int .i64 0]) ?res rfl ⟨rfl, hBs⟩
  case res => simp [results, Tryz.f20, go_sem, g1, g2]
theorem qsubc_dig {m : Nat} {a b : Rat} (dx : Dig m (a.num * (b.den : Int))) (dy : Dig m (b.num * (a.den : Int))) (dz : Dig m ((a.den : Int) * (b.den : Int))) : QDig (m + 1) (a - b) := by
  rw [← sub_parts a b]
  exact QDig.ofInt (Int.mul_pos (den_pos a) (den_pos b)) (dx.sub dy) (dz.mono (by omega))
theorem two_ends {a b : Rat} (da : QDig 100 a) (db : QDig 100 b) : ∃ c : Iv, (0 < cmpQ a b ∧ c.lo = b ∧ c.hi = a ∨ ¬ 0 < cmpQ a b ∧ c.lo = a ∧ c.hi = b) ∧ IDig 100 c ∧ c.Ok := by
  by_cases h : 0 < cmpQ a b
  · exact ⟨⟨b, a⟩, .inl ⟨h, rfl, rfl⟩, ⟨db, da⟩, Rat.le_of_lt (cmpQ_gt.1 h)⟩
  · exact ⟨⟨a, b⟩, .inr ⟨h, rfl, rfl⟩, ⟨da, db⟩, Rat.not_lt.1 fun h' => h (cmpQ_gt.2 h')⟩
set_option maxHeartbeats 4000000 in
/-- What the law asks of an interval with long ends, all at once. -/
theorem round_facts {a b : Rat} {p : Nat} (da : QDig 100 a) (db : QDig 100 b) (hp : (p : Int) < 31) : ∃ (c o : Iv) (lo hi : Rat), (0 < cmpQ a b ∧ c.lo = b ∧ c.hi = a ∨ ¬ 0 < cmpQ a b ∧ c.lo = a ∧ c.hi = b) ∧ QDig 150 lo ∧ QDig 150 hi ∧ lo < Rat.divInt 1 (TT p) ∧ hi < Rat.divInt 1 (TT p)
    ∧ (∀ W, Env W → Calls Tryz.prog 16 #[I c, .int .i64 (p : Int)] W fun e w' => e = .returned (.tuple #[I o, .int .i64 0]) ∧ Below W.heap.size W w')
    ∧ (∀ W, Env W → Calls Tryz.prog 16 #[I o, .int .i64 (p : Int)] W fun e w' => e = .returned (.tuple #[I o, .int .i64 0]) ∧ Below W.heap.size W w')
    ∧ (∀ W, Env W → Calls Tryz.prog 17 #[I c, I o] W fun e w' => e = .returned (.bool true) ∧ Below W.heap.size W w')
    ∧ (∀ W, Env W → Calls Tryz.prog 20 #[Q (c.lo), Q (o.lo)] W fun e w' => e = .returned (.tuple #[Q lo, .int .i64 0]) ∧ Below W.heap.size W w')
    ∧ (∀ W, Env W → Calls Tryz.prog 20 #[Q (o.hi), Q (c.hi)] W fun e w' => e = .returned (.tuple #[Q hi, .int .i64 0]) ∧ Below W.heap.size W w') := by
  obtain ⟨c, hc, dc, oc⟩ := two_ends da db
  have hp2 : p ≤ 30 := by omega
  have l1 : Dig (100 + p + 1) (c.lo.num * ((dn c.lo (TT p)).den : Int)) := grid_cross dc.1
  have l2 : Dig (100 + p + 1) ((dn c.lo (TT p)).num * (c.lo.den : Int)) := dn_cross dc.1
  have l3 : Dig (100 + p + 1) ((c.lo.den : Int) * ((dn c.lo (TT p)).den : Int)) := grid_dens dc.1
  have h1 : Dig (100 + p + 1) ((uq c.hi (TT p)).num * (c.hi.den : Int)) := uq_cross dc.2
  have h2 : Dig (100 + p + 1) (c.hi.num * ((uq c.hi (TT p)).den : Int)) := grid_cross dc.2
  have h3 : Dig (100 + p + 1) (((uq c.hi (TT p)).den : Int) * (c.hi.den : Int)) := by rw [Int.mul_comm]; exact grid_dens dc.2
  have dl : QDig 200 (dn c.lo (TT p)) := (dn_dig dc.1).mono (by omega)
  have du : QDig 200 (uq c.hi (TT p)) := (uq_dig dc.2).mono (by omega)
  have dO := roundI_dig (p := p) dc
  refine ⟨c, roundI c (TT p), c.lo - (roundI c (TT p)).lo, (roundI c (TT p)).hi - c.hi, hc, (qsubc_dig l1 l2 l3).mono (by omega), (qsubc_dig h1 h2 h3).mono (by omega), dn_near c.lo (TT_pos p), uq_near c.hi (TT_pos p), ?_, ?_, ?_, ?_, ?_⟩
  · intro W he
    refine (eroundI dc oc hp2 (by omega) W he).mono ?_
    rintro e w' ⟨_, rfl, h, hb⟩
    exact ⟨h, hb⟩
  · intro W he
    refine (eroundI dO (round_ok oc p) hp2 (by omega) W he).mono ?_
    rintro e w' ⟨_, rfl, h, hb⟩
    rw [roundI_roundI (TT_pos p)] at h
    exact ⟨h, hb⟩
  · intro W he
    exact ewithin c (roundI c (TT p)) (dc.mono (by omega)) (dO.mono (by omega)) oc (sub_roundI (TT_pos p)) W he
  · intro W he
    exact qsubc (dc.1.mono (by omega)) dl l1 l2 l3 (by omega) W he
  · intro W he
    exact qsubc du (dc.2.mono (by omega)) h1 h2 h3 (by omega) W he
set_option maxRecDepth 100000 in
set_option maxHeartbeats 16000000 in
theorem enclosureRounds_any {a0 : Addr} (x0 x1 x2 x3 y0 y1 y2 y3 pl : Int) (hx : IsInt x0 ∧ IsInt x1 ∧ IsInt x2 ∧ IsInt x3) (hy : IsInt y0 ∧ IsInt y1 ∧ IsInt y2 ∧ IsInt y3) (hp : IsInt pl) (w : World) (he : EnvE a0 w) :
    Calls Tryz.prog 3 #[.agg #[.int .i64 x0, .int .i64 x1, .int .i64 x2, .int .i64 x3], .agg #[.int .i64 y0, .int .i64 y1, .int .i64 y2, .int .i64 y3], .int .i64 pl] w (BoolOk true w) := by
  have hB : Below w.heap.size w w := Below.refl _ _
  have MS := fun W (h : EnvE a0 W) => sane5 W h
  have LX := fun W => rlong x0 x1 x2 x3 hx W
  have LY := fun W => rlong y0 y1 y2 y3 hy W
  have PP := fun W => npick pl 31 hp (by omega) (by omega) W
  have R1 := fun W => lratio (n := 1) (d := 1) ⟨by omega, by omega⟩ ⟨by omega, by omega⟩ (by omega) W
  have R10 := fun W => lratio (n := 10) (d := 1) ⟨by omega, by omega⟩ ⟨by omega, by omega⟩ (by omega) W
  have e01 : Rat.divInt 1 1 = Rat.divInt 1 (TT 0) := by decide +kernel
  rw [e01] at R1
  clear e01
  unfold BoolOk at MS
  unfold QSome Q at LX LY
  unfold QIs Q at R1 R10
  clear hx hy hp
  go_enter Tryz.func3, Tryz.ntmps3
  go_wp2_with fail
  have sB := hB.size
  refine world_cut (fun X => Below w.heap.size w X ∧ Row X w.heap.size (.cells #[.int .i64 x0, .int .i64 x1, .int .i64 x2, .int .i64 x3] 22) ∧ Row X (w.heap.size + 1) (.cells #[.int .i64 y0, .int .i64 y1, .int .i64 y2, .int .i64 y3] 22)) ⟨BW, RW, RW⟩ ?_
  clear hB sB
  rintro V1 ⟨hB, rx, ry⟩
  have Fx : ∀ X, Row X w.heap.size (.cells #[.int .i64 x0, .int .i64 x1, .int .i64 x2, .int .i64 x3] 22) → (w.heap.size < X.heap.size ∧ X.cell? ⟨w.heap.size, 0, none⟩ = some (.int .i64 x0) ∧ X.cell? ⟨w.heap.size, 1, none⟩ = some (.int .i64 x1) ∧ X.cell? ⟨w.heap.size, 2, none⟩ = some (.int .i64 x2) ∧ X.cell? ⟨w.heap.size, 3, none⟩ = some (.int .i64 x3)) := fun X h => ⟨h.1, Row.cell_at h 0 rfl, Row.cell_at h 1 rfl, Row.cell_at h 2 rfl, Row.cell_at h 3 rfl⟩
  obtain ⟨sx, cx0, cx1, cx2, cx3⟩ := Fx _ rx
  have Fy : ∀ X, Row X (w.heap.size + 1) (.cells #[.int .i64 y0, .int .i64 y1, .int .i64 y2, .int .i64 y3] 22) → (w.heap.size + 1 < X.heap.size ∧ X.cell? ⟨w.heap.size + 1, 0, none⟩ = some (.int .i64 y0) ∧ X.cell? ⟨w.heap.size + 1, 1, none⟩ = some (.int .i64 y1) ∧ X.cell? ⟨w.heap.size + 1, 2, none⟩ = some (.int .i64 y2) ∧ X.cell? ⟨w.heap.size + 1, 3, none⟩ = some (.int .i64 y3)) := fun X h => ⟨h.1, Row.cell_at h 0 rfl, Row.cell_at h 1 rfl, Row.cell_at h 2 rfl, Row.cell_at h 3 rfl⟩
  obtain ⟨sy, cy0, cy1, cy2, cy3⟩ := Fy _ ry
  refine (MS _ (he.below hB)).mono ?_
  rintro e W2 ⟨rfl, h1⟩
  clear sx cx0 cx1 cx2 cx3
  clear sy cy0 cy1 cy2 cy3
  replace hB := hB.trans (h1.mono hB.size)
  replace rx := Row.below rx h1
  replace ry := Row.below ry h1
  clear h1
  obtain ⟨sx, cx0, cx1, cx2, cx3⟩ := Fx _ rx
  obtain ⟨sy, cy0, cy1, cy2, cy3⟩ := Fy _ ry
  go_wp2_with fail
  refine (PP _).mono ?_
  rintro e W3 ⟨p, hp31, rfl, h1⟩
  clear sx cx0 cx1 cx2 cx3
  clear sy cy0 cy1 cy2 cy3
  replace hB := hB.trans (h1.mono hB.size)
  replace rx := Row.below rx h1
  replace ry := Row.below ry h1
  clear h1
  obtain ⟨sx, cx0, cx1, cx2, cx3⟩ := Fx _ rx
  obtain ⟨sy, cy0, cy1, cy2, cy3⟩ := Fy _ ry
  go_wp2_with fail
  clear rx
  clear sx cx0 cx1 cx2 cx3
  clear Fx
  refine (LX _).mono ?_
  rintro e W4 ⟨a, da, rfl, h1⟩
  clear sy cy0 cy1 cy2 cy3
  replace hB := hB.trans (h1.mono hB.size)
  replace ry := Row.below ry h1
  clear h1
  obtain ⟨sy, cy0, cy1, cy2, cy3⟩ := Fy _ ry
  go_wp2_with fail
  clear Fy
  have sB := hB.size
  refine world_cut (fun X => Below w.heap.size w X ∧ Row X W4.heap.size (.cells #[.string (S a.num), .string (S (a.den : Int))] 26)) ⟨BW, RW⟩ ?_
  clear ry
  clear sy cy0 cy1 cy2 cy3
  clear hB sB
  rintro V5 ⟨hB, ra⟩
  have Fa : ∀ X, Row X W4.heap.size (.cells #[.string (S a.num), .string (S (a.den : Int))] 26) → (W4.heap.size < X.heap.size ∧ X.cell? ⟨W4.heap.size, 0, none⟩ = some (.string (S a.num)) ∧ X.cell? ⟨W4.heap.size, 1, none⟩ = some (.string (S (a.den : Int)))) := fun X h => ⟨h.1, Row.cell_at h 0 rfl, Row.cell_at h 1 rfl⟩
  obtain ⟨sa, ca0, ca1⟩ := Fa _ ra
  refine (LY _).mono ?_
  rintro e W6 ⟨b, db, rfl, h1⟩
  clear sa ca0 ca1
  replace hB := hB.trans (h1.mono hB.size)
  replace ra := Row.below ra h1
  clear h1
  obtain ⟨sa, ca0, ca1⟩ := Fa _ ra
  clear MS PP LX LY
  have C1 := fun W (h : Env W) => qcompare a b (da.mono (by omega)) (db.mono (by omega)) W h
  unfold CmpOk Q at C1
  obtain ⟨c, o, lo, hi, hc, dlo, dhi, llo, lhi, RO, RA, WI, SL, SH⟩ := round_facts da db hp31
  have H1 := Lib.hid hc
  clear hc da db
  unfold I at RO RA WI
  unfold Q at SL SH
  have DV := fun (i : Nat) (h : i < p) W (h2 : Env W) => nunit i (by omega) W h2
  generalize cmpQ a b = k1 at *
  generalize hg : S a.num = an at *
  have Gan := Lib.hid hg
  clear hg
  generalize hg : S (a.den : Int) = ad at *
  have Gad := Lib.hid hg
  clear hg
  generalize hg : S b.num = bn at *
  have Gbn := Lib.hid hg
  clear hg
  generalize hg : S (b.den : Int) = bd at *
  have Gbd := Lib.hid hg
  clear hg
  generalize hg : S c.lo.num = cln at *
  have Gcln := Lib.hid hg
  clear hg
  generalize hg : S (c.lo.den : Int) = cld at *
  have Gcld := Lib.hid hg
  clear hg
  generalize hg : S c.hi.num = chn at *
  have Gchn := Lib.hid hg
  clear hg
  generalize hg : S (c.hi.den : Int) = chd at *
  have Gchd := Lib.hid hg
  clear hg
  generalize hg : S o.lo.num = oln at *
  clear hg
  generalize hg : S (o.lo.den : Int) = old at *
  clear hg
  generalize hg : S o.hi.num = ohn at *
  clear hg
  generalize hg : S (o.hi.den : Int) = ohd at *
  clear hg
  generalize hg : S lo.num = lon at *
  have Glon := Lib.hid hg
  clear hg
  generalize hg : S (lo.den : Int) = lod at *
  have Glod := Lib.hid hg
  clear hg
  generalize hg : S hi.num = hin at *
  have Ghin := Lib.hid hg
  clear hg
  generalize hg : S (hi.den : Int) = hid at *
  have Ghid := Lib.hid hg
  clear hg
  have J1 : Hid ((0 < k1 ∧ cln = bn ∧ cld = bd ∧ chn = an ∧ chd = ad) ∨ (¬ 0 < k1 ∧ cln = an ∧ cld = ad ∧ chn = bn ∧ chd = bd)) := Lib.hid (H1.out.imp (fun h => ⟨h.1, by rw [← Gcln.out, ← Gbn.out, h.2.1], by rw [← Gcld.out, ← Gbd.out, h.2.1], by rw [← Gchn.out, ← Gan.out, h.2.2], by rw [← Gchd.out, ← Gad.out, h.2.2]⟩) (fun h => ⟨h.1, by rw [← Gcln.out, ← Gan.out, h.2.1], by rw [← Gcld.out, ← Gad.out, h.2.1], by rw [← Gchn.out, ← Gbn.out, h.2.2], by rw [← Gchd.out, ← Gbd.out, h.2.2]⟩))
  clear H1 Gan Gad Gbn Gbd Gcln Gcld Gchn Gchd
  go_wp2_with fail
  have da_in : W4.heap.size < W6.heap.size + 1 := by omega
  have d0_in : w.heap.size ≤ W6.heap.size + 1 := by have := hB.size; omega
  have sB := hB.size
  refine world_cut (fun X => Below w.heap.size w X ∧ Row X W4.heap.size (.cells #[.string an, .string ad] 26) ∧ Row X W6.heap.size (.cells #[.string bn, .string bd] 26) ∧ Row X (W6.heap.size + 1) (.cells #[.string an, .string ad, .string bn, .string bd] 29)) ⟨BW, RW, RW, RW⟩ ?_
  clear ra
  clear sa ca0 ca1
  clear hB sB
  rintro V7 ⟨hB, ra, rb, rin⟩
  clear Fa
  have Fa : ∀ X, Row X W4.heap.size (.cells #[.string an, .string ad] 26) → (W4.heap.size < X.heap.size ∧ X.cell? ⟨W4.heap.size, 0, none⟩ = some (.string an) ∧ X.cell? ⟨W4.heap.size, 1, none⟩ = some (.string ad)) := fun X h => ⟨h.1, Row.cell_at h 0 rfl, Row.cell_at h 1 rfl⟩
  obtain ⟨sa, ca0, ca1⟩ := Fa _ ra
  have Fb : ∀ X, Row X W6.heap.size (.cells #[.string bn, .string bd] 26) → (W6.heap.size < X.heap.size ∧ X.cell? ⟨W6.heap.size, 0, none⟩ = some (.string bn) ∧ X.cell? ⟨W6.heap.size, 1, none⟩ = some (.string bd)) := fun X h => ⟨h.1, Row.cell_at h 0 rfl, Row.cell_at h 1 rfl⟩
  obtain ⟨sb, cb0, cb1⟩ := Fb _ rb
  have Fin : ∀ X, Row X (W6.heap.size + 1) (.cells #[.string an, .string ad, .string bn, .string bd] 29) → (W6.heap.size + 1 < X.heap.size ∧ X.cell? ⟨W6.heap.size + 1, 0, none⟩ = some (.string an) ∧ X.cell? ⟨W6.heap.size + 1, 1, none⟩ = some (.string ad) ∧ X.cell? ⟨W6.heap.size + 1, 2, none⟩ = some (.string bn) ∧ X.cell? ⟨W6.heap.size + 1, 3, none⟩ = some (.string bd) ∧ X.frozen? ⟨W6.heap.size + 1, 0, none⟩ = false ∧ X.frozen? ⟨W6.heap.size + 1, 1, none⟩ = false ∧ X.frozen? ⟨W6.heap.size + 1, 2, none⟩ = false ∧ X.frozen? ⟨W6.heap.size + 1, 3, none⟩ = false) := fun X h => ⟨h.1, Row.cell_at h 0 rfl, Row.cell_at h 1 rfl, Row.cell_at h 2 rfl, Row.cell_at h 3 rfl, frozen_of_row _ _ 0 _ _ h.2, frozen_of_row _ _ 1 _ _ h.2, frozen_of_row _ _ 2 _ _ h.2, frozen_of_row _ _ 3 _ _ h.2⟩
  obtain ⟨sin, cin0, cin1, cin2, cin3, fin0, fin1, fin2, fin3⟩ := Fin _ rin
  refine (C1 _ (he.env.below hB)).mono ?_
  rintro e W8 ⟨rfl, h1⟩
  clear sa ca0 ca1
  clear sb cb0 cb1
  clear sin cin0 cin1 cin2 cin3 fin0 fin1 fin2 fin3
  replace hB := hB.trans (h1.mono hB.size)
  replace ra := Row.below ra h1
  replace rb := Row.below rb h1
  replace rin := Row.below rin h1
  clear h1
  obtain ⟨sa, ca0, ca1⟩ := Fa _ ra
  obtain ⟨sb, cb0, cb1⟩ := Fb _ rb
  obtain ⟨sin, cin0, cin1, cin2, cin3, fin0, fin1, fin2, fin3⟩ := Fin _ rin
  go_upto_if 34 with fail
  go_cut [] (fun W => Below w.heap.size w W ∧ Row W W4.heap.size (.cells #[.string an, .string ad] 26) ∧ Row W W6.heap.size (.cells #[.string bn, .string bd] 26) ∧ Row W (W6.heap.size + 1) (.cells #[.string cln, .string cld, .string chn, .string chd] 29))
  case first =>
    rcases J1.out with ⟨g1, rfl, rfl, rfl, rfl⟩ | ⟨g1, rfl, rfl, rfl, rfl⟩
    · clear J1 RO RA WI SL SH
      go_wp2
      go_meet
      case rel => exact ⟨BW, RW, RW, RW⟩
    · clear J1 RO RA WI SL SH
      go_wp2
      go_meet
      case rel => exact ⟨BW, RW, RW, RW⟩
  case rest =>
    clear hB ra rb rin
    clear sa ca0 ca1
    clear sb cb0 cb1
    clear sin cin0 cin1 cin2 cin3 fin0 fin1 fin2 fin3
    obtain ⟨hB, ra, rb, rin⟩ := hcut
    skip
    obtain ⟨sa, ca0, ca1⟩ := Fa _ ra
    obtain ⟨sb, cb0, cb1⟩ := Fb _ rb
    clear Fin
    have Fin : ∀ X, Row X (W6.heap.size + 1) (.cells #[.string cln, .string cld, .string chn, .string chd] 29) → (W6.heap.size + 1 < X.heap.size ∧ X.cell? ⟨W6.heap.size + 1, 0, none⟩ = some (.string cln) ∧ X.cell? ⟨W6.heap.size + 1, 1, none⟩ = some (.string cld) ∧ X.cell? ⟨W6.heap.size + 1, 2, none⟩ = some (.string chn) ∧ X.cell? ⟨W6.heap.size + 1, 3, none⟩ = some (.string chd) ∧ X.frozen? ⟨W6.heap.size + 1, 0, none⟩ = false ∧ X.frozen? ⟨W6.heap.size + 1, 1, none⟩ = false ∧ X.frozen? ⟨W6.heap.size + 1, 2, none⟩ = false ∧ X.frozen? ⟨W6.heap.size + 1, 3, none⟩ = false) := fun X h => ⟨h.1, Row.cell_at h 0 rfl, Row.cell_at h 1 rfl, Row.cell_at h 2 rfl, Row.cell_at h 3 rfl, frozen_of_row _ _ 0 _ _ h.2, frozen_of_row _ _ 1 _ _ h.2, frozen_of_row _ _ 2 _ _ h.2, frozen_of_row _ _ 3 _ _ h.2⟩
    obtain ⟨sin, cin0, cin1, cin2, cin3, fin0, fin1, fin2, fin3⟩ := Fin _ rin
    clear J1 C1
    go_wp2_with fail
    clear ra
    clear sa ca0 ca1
    clear Fa
    clear rb
    clear sb cb0 cb1
    clear Fb
    refine (RO _ (he.env.below hB)).mono ?_
    rintro e W10 ⟨rfl, h1⟩
    clear sin cin0 cin1 cin2 cin3 fin0 fin1 fin2 fin3
    replace hB := hB.trans (h1.mono hB.size)
    replace rin := Row.below rin h1
    clear h1
    obtain ⟨sin, cin0, cin1, cin2, cin3, fin0, fin1, fin2, fin3⟩ := Fin _ rin
    go_wp2_with fail
    have din_out : W6.heap.size + 1 < W10.heap.size := by omega
    have sB := hB.size
    refine world_cut (fun X => Below w.heap.size w X ∧ Row X (W6.heap.size + 1) (.cells #[.string cln, .string cld, .string chn, .string chd] 29) ∧ Row X W10.heap.size (.cells #[.string oln, .string old, .string ohn, .string ohd] 29)) ⟨BW, RW, RW⟩ ?_
    clear rin
    clear sin cin0 cin1 cin2 cin3 fin0 fin1 fin2 fin3
    clear hB sB
    rintro V11 ⟨hB, rin, rout⟩
    obtain ⟨sin, cin0, cin1, cin2, cin3, fin0, fin1, fin2, fin3⟩ := Fin _ rin
    have Fout : ∀ X, Row X W10.heap.size (.cells #[.string oln, .string old, .string ohn, .string ohd] 29) → (W10.heap.size < X.heap.size ∧ X.cell? ⟨W10.heap.size, 0, none⟩ = some (.string oln) ∧ X.cell? ⟨W10.heap.size, 1, none⟩ = some (.string old) ∧ X.cell? ⟨W10.heap.size, 2, none⟩ = some (.string ohn) ∧ X.cell? ⟨W10.heap.size, 3, none⟩ = some (.string ohd)) := fun X h => ⟨h.1, Row.cell_at h 0 rfl, Row.cell_at h 1 rfl, Row.cell_at h 2 rfl, Row.cell_at h 3 rfl⟩
    obtain ⟨sout, cout0, cout1, cout2, cout3⟩ := Fout _ rout
    refine (RA _ (he.env.below hB)).mono ?_
    rintro e W12 ⟨rfl, h1⟩
    clear sin cin0 cin1 cin2 cin3 fin0 fin1 fin2 fin3
    clear sout cout0 cout1 cout2 cout3
    replace hB := hB.trans (h1.mono hB.size)
    replace rin := Row.below rin h1
    replace rout := Row.below rout h1
    clear h1
    obtain ⟨sin, cin0, cin1, cin2, cin3, fin0, fin1, fin2, fin3⟩ := Fin _ rin
    obtain ⟨sout, cout0, cout1, cout2, cout3⟩ := Fout _ rout
    clear RO RA
    go_upto_region 10 with fail
    have din_ag : W6.heap.size + 1 < W12.heap.size := by omega
    have sB := hB.size
    refine wp_cut (fun X => Below w.heap.size w X ∧ Row X (W6.heap.size + 1) (.cells #[.string cln, .string cld, .string chn, .string chd] 29) ∧ Row X W10.heap.size (.cells #[.string oln, .string old, .string ohn, .string ohd] 29) ∧ Row X W12.heap.size (.cells #[.string oln, .string old, .string ohn, .string ohd] 29)) ⟨BW, RW, RW, RW⟩ ?_
    clear rin
    clear sin cin0 cin1 cin2 cin3 fin0 fin1 fin2 fin3
    clear rout
    clear sout cout0 cout1 cout2 cout3
    clear hB sB
    rintro V13 ⟨hB, rin, rout, rag⟩
    obtain ⟨sin, cin0, cin1, cin2, cin3, fin0, fin1, fin2, fin3⟩ := Fin _ rin
    obtain ⟨sout, cout0, cout1, cout2, cout3⟩ := Fout _ rout
    have Fag : ∀ X, Row X W12.heap.size (.cells #[.string oln, .string old, .string ohn, .string ohd] 29) → (W12.heap.size < X.heap.size ∧ X.cell? ⟨W12.heap.size, 0, none⟩ = some (.string oln) ∧ X.cell? ⟨W12.heap.size, 1, none⟩ = some (.string old) ∧ X.cell? ⟨W12.heap.size, 2, none⟩ = some (.string ohn) ∧ X.cell? ⟨W12.heap.size, 3, none⟩ = some (.string ohd)) := fun X h => ⟨h.1, Row.cell_at h 0 rfl, Row.cell_at h 1 rfl, Row.cell_at h 2 rfl, Row.cell_at h 3 rfl⟩
    obtain ⟨sag, cag0, cag1, cag2, cag3⟩ := Fag _ rag
    refine wp_region_vals_seq [.int .i64 0, .bool false, .bool false, .int .i64 0, .bool false, .bool false, .bool false, .agg #[.string oln, .string old, .string ohn, .string ohd], .agg #[.string oln, .string old, .string ohn, .string ohd], .bool false, .bool false, .bool false, .agg #[.string cln, .string cld, .string chn, .string chd], .agg #[.string oln, .string old, .string ohn, .string ohd], .bool true, .bool false, .bool false] (by kernel_rfl) rfl (allVals.cons qv0 (allVals.cons qv0 (allVals.cons qv0 (allVals.cons qv0 (allVals.cons qv0 (allVals.cons qv0 (allVals.cons qv0 (allVals.cons (qv1 fun X h => Fag X (Row.below rag h)) (allVals.cons (qv1 fun X h => Fout X (Row.below rout h)) (allVals.cons qv0 (allVals.cons qv0 (allVals.cons qv0 (allVals.cons (qv1 fun X h => Fin X (Row.below rin h)) (allVals.cons (qv1 fun X h => Fout X (Row.below rout h)) (allVals.cons (qv2 fun X h => WI X (he.env.below (hB.trans (h.mono hB.size)))) (allVals.cons qv0 (allVals.cons qv0 trivial))))))))))))))))) ?_
    rintro W h1
    clear sin cin0 cin1 cin2 cin3 fin0 fin1 fin2 fin3
    clear sout cout0 cout1 cout2 cout3
    clear sag cag0 cag1 cag2 cag3
    replace hB := hB.trans (h1.mono hB.size)
    replace rin := Row.below rin h1
    replace rout := Row.below rout h1
    replace rag := Row.below rag h1
    clear h1
    obtain ⟨sin, cin0, cin1, cin2, cin3, fin0, fin1, fin2, fin3⟩ := Fin _ rin
    obtain ⟨sout, cout0, cout1, cout2, cout3⟩ := Fout _ rout
    obtain ⟨sag, cag0, cag1, cag2, cag3⟩ := Fag _ rag
    simp only [setVals, List.setIfInBounds_toArray, List.set_cons_succ, List.set_cons_zero]
    clear WI
    go_wp2_with fail
    clear rag
    clear sag cag0 cag1 cag2 cag3
    clear Fag
    refine (R1 _).mono ?_
    rintro e W14 ⟨rfl, h1⟩
    clear sin cin0 cin1 cin2 cin3 fin0 fin1 fin2 fin3
    clear sout cout0 cout1 cout2 cout3
    replace hB := hB.trans (h1.mono hB.size)
    replace rin := Row.below rin h1
    replace rout := Row.below rout h1
    clear h1
    obtain ⟨sin, cin0, cin1, cin2, cin3, fin0, fin1, fin2, fin3⟩ := Fin _ rin
    obtain ⟨sout, cout0, cout1, cout2, cout3⟩ := Fout _ rout
    go_wp2_with fail
    have din_st : W6.heap.size + 1 < W14.heap.size := by omega
    have dout_st : W10.heap.size < W14.heap.size := by omega
    have d0_st : w.heap.size ≤ W14.heap.size := by have := hB.size; omega
    have sB := hB.size
    refine wp_cut (fun X => Below w.heap.size w X ∧ Row X (W6.heap.size + 1) (.cells #[.string cln, .string cld, .string chn, .string chd] 29) ∧ Row X W10.heap.size (.cells #[.string oln, .string old, .string ohn, .string ohd] 29) ∧ Row X W14.heap.size (.cells #[.string (S (Rat.divInt 1 (TT 0)).num), .string (S ((Rat.divInt 1 (TT 0)).den : Int))] 26)) ⟨BW, RW, RW, RW⟩ ?_
    clear rin
    clear sin cin0 cin1 cin2 cin3 fin0 fin1 fin2 fin3
    clear rout
    clear sout cout0 cout1 cout2 cout3
    clear hB sB
    rintro V15 ⟨hB, rin, rout, rst⟩
    obtain ⟨sin, cin0, cin1, cin2, cin3, fin0, fin1, fin2, fin3⟩ := Fin _ rin
    obtain ⟨sout, cout0, cout1, cout2, cout3⟩ := Fout _ rout
    have Fst : ∀ X, Row X W14.heap.size (.cells #[.string (S (Rat.divInt 1 (TT 0)).num), .string (S ((Rat.divInt 1 (TT 0)).den : Int))] 26) → (W14.heap.size < X.heap.size ∧ X.cell? ⟨W14.heap.size, 0, none⟩ = some (.string (S (Rat.divInt 1 (TT 0)).num)) ∧ X.cell? ⟨W14.heap.size, 1, none⟩ = some (.string (S ((Rat.divInt 1 (TT 0)).den : Int))) ∧ X.frozen? ⟨W14.heap.size, 0, none⟩ = false ∧ X.frozen? ⟨W14.heap.size, 1, none⟩ = false) := fun X h => ⟨h.1, Row.cell_at h 0 rfl, Row.cell_at h 1 rfl, frozen_of_row _ _ 0 _ _ h.2, frozen_of_row _ _ 1 _ _ h.2⟩
    obtain ⟨sst, cst0, cst1, fst0, fst1⟩ := Fst _ rst
    go_loopw [16] (fun v22 wr => ∃ i : Nat, v22 = .int .i64 (i : Int) ∧ i ≤ p ∧ Below w.heap.size w wr ∧ Row wr (W6.heap.size + 1) (.cells #[.string cln, .string cld, .string chn, .string chd] 29) ∧ Row wr W10.heap.size (.cells #[.string oln, .string old, .string ohn, .string ohd] 29) ∧ Row wr W14.heap.size (.cells #[.string (S (Rat.divInt 1 (TT i)).num), .string (S ((Rat.divInt 1 (TT i)).den : Int))] 26)) (fun v22 _ => (p - intOf v22).toNat)
    case atStart => exact ⟨0, rfl, by omega, hB, rin, rout, rst⟩
    case round =>
      clear sin cin0 cin1 cin2 cin3 fin0 fin1 fin2 fin3
      clear sout cout0 cout1 cout2 cout3
      clear sst cst0 cst1 fst0 fst1
      clear hB rin rout rst
      obtain ⟨i, rfl, hi9, hB, rin, rout, rst⟩ := hrel
      rcases Nat.lt_or_ge i p with hlt | hge
      · obtain ⟨sin, cin0, cin1, cin2, cin3, fin0, fin1, fin2, fin3⟩ := Fin _ rin
        obtain ⟨sout, cout0, cout1, cout2, cout3⟩ := Fout _ rout
        clear Fst
        have Fst : ∀ X, Row X W14.heap.size (.cells #[.string (S (Rat.divInt 1 (TT i)).num), .string (S ((Rat.divInt 1 (TT i)).den : Int))] 26) → (W14.heap.size < X.heap.size ∧ X.cell? ⟨W14.heap.size, 0, none⟩ = some (.string (S (Rat.divInt 1 (TT i)).num)) ∧ X.cell? ⟨W14.heap.size, 1, none⟩ = some (.string (S ((Rat.divInt 1 (TT i)).den : Int))) ∧ X.frozen? ⟨W14.heap.size, 0, none⟩ = false ∧ X.frozen? ⟨W14.heap.size, 1, none⟩ = false) := fun X h => ⟨h.1, Row.cell_at h 0 rfl, Row.cell_at h 1 rfl, frozen_of_row _ _ 0 _ _ h.2, frozen_of_row _ _ 1 _ _ h.2⟩
        obtain ⟨sst, cst0, cst1, fst0, fst1⟩ := Fst _ rst
        have hlt8 : (i : Int) < (p : Int) := by omega
        clear SL SH llo lhi dlo dhi
        go_wp2_with fail
        go_region_with (first
            | (go_at_call 18; refine (R10 _).mono ?_; rintro e W ⟨rfl, h1⟩; (try replace h1 := below_of_drew h1); replace hB := hB.trans (h1.mono hB.size); replace rin := Row.below rin h1; replace rout := Row.below rout h1; replace rst := Row.below rst h1; obtain ⟨sin, cin0, cin1, cin2, cin3, fin0, fin1, fin2, fin3⟩ := Fin _ rin; obtain ⟨sout, cout0, cout1, cout2, cout3⟩ := Fout _ rout; obtain ⟨sst, cst0, cst1, fst0, fst1⟩ := Fst _ rst)
            | (go_at_call 19; refine (DV i hlt _ (by first | exact he.env.below hB | exact he.env.below hB.drew | exact he.env.below (below_drewN hB _))).mono ?_; rintro e W ⟨rfl, h1⟩; (try replace h1 := below_of_drew h1); replace hB := hB.trans (h1.mono hB.size); replace rin := Row.below rin h1; replace rout := Row.below rout h1; replace rst := Row.below rst h1; obtain ⟨sin, cin0, cin1, cin2, cin3, fin0, fin1, fin2, fin3⟩ := Fin _ rin; obtain ⟨sout, cout0, cout1, cout2, cout3⟩ := Fout _ rout; obtain ⟨sst, cst0, cst1, fst0, fst1⟩ := Fst _ rst))
        all_goals (go_wp2; go_roundw; (case rel => exact ⟨i + 1, by go_num, by omega, BW, RW, RW, RW⟩); (case measure => simp [intOf]; omega))
      · obtain rfl : i = p := by omega
        have du := unit_dig i
        generalize hu : Rat.divInt 1 (TT i) = u at *
        clear hu DV
        have K1 := fun W (h : Env W) => qcompare lo u (dlo.mono (by omega)) (du.mono (by omega)) W h
        have K2 := fun W (h : Env W) => qcompare hi u (dhi.mono (by omega)) (du.mono (by omega)) W h
        have g1 := cmpQ_lt.2 llo
        have g2 := cmpQ_lt.2 lhi
        unfold CmpOk Q at K1 K2
        rw [Glon.out, Glod.out] at K1
        rw [Ghin.out, Ghid.out] at K2
        generalize cmpQ lo u = c1 at *
        generalize cmpQ hi u = c2 at *
        clear du dlo dhi llo lhi
        obtain ⟨sin, cin0, cin1, cin2, cin3, fin0, fin1, fin2, fin3⟩ := Fin _ rin
        obtain ⟨sout, cout0, cout1, cout2, cout3⟩ := Fout _ rout
        clear Fst
        have Fst : ∀ X, Row X W14.heap.size (.cells #[.string (S u.num), .string (S (u.den : Int))] 26) → (W14.heap.size < X.heap.size ∧ X.cell? ⟨W14.heap.size, 0, none⟩ = some (.string (S u.num)) ∧ X.cell? ⟨W14.heap.size, 1, none⟩ = some (.string (S (u.den : Int))) ∧ X.frozen? ⟨W14.heap.size, 0, none⟩ = false ∧ X.frozen? ⟨W14.heap.size, 1, none⟩ = false) := fun X h => ⟨h.1, Row.cell_at h 0 rfl, Row.cell_at h 1 rfl, frozen_of_row _ _ 0 _ _ h.2, frozen_of_row _ _ 1 _ _ h.2⟩
        obtain ⟨sst, cst0, cst1, fst0, fst1⟩ := Fst _ rst
        go_wp2_with fail
        refine (SL _ (he.env.below hB)).mono ?_
        rintro e W16 ⟨rfl, h1⟩
        clear sin cin0 cin1 cin2 cin3 fin0 fin1 fin2 fin3
        clear sout cout0 cout1 cout2 cout3
        clear sst cst0 cst1 fst0 fst1
        replace hB := hB.trans (h1.mono hB.size)
        replace rin := Row.below rin h1
        replace rout := Row.below rout h1
        replace rst := Row.below rst h1
        clear h1
        obtain ⟨sin, cin0, cin1, cin2, cin3, fin0, fin1, fin2, fin3⟩ := Fin _ rin
        obtain ⟨sout, cout0, cout1, cout2, cout3⟩ := Fout _ rout
        obtain ⟨sst, cst0, cst1, fst0, fst1⟩ := Fst _ rst
        go_wp2_with fail
        have dst_lo : W14.heap.size < W16.heap.size := by omega
        clear Fin
        clear Fout
        have sB := hB.size
        refine world_cut (fun X => Below w.heap.size w X ∧ Row X W14.heap.size (.cells #[.string (S u.num), .string (S (u.den : Int))] 26) ∧ Row X W16.heap.size (.cells #[.string lon, .string lod] 26)) ⟨BW, RW, RW⟩ ?_
        clear rin
        clear sin cin0 cin1 cin2 cin3 fin0 fin1 fin2 fin3
        clear rout
        clear sout cout0 cout1 cout2 cout3
        clear rst
        clear sst cst0 cst1 fst0 fst1
        clear hB sB
        rintro V17 ⟨hB, rst, rlo⟩
        obtain ⟨sst, cst0, cst1, fst0, fst1⟩ := Fst _ rst
        have Flo : ∀ X, Row X W16.heap.size (.cells #[.string lon, .string lod] 26) → (W16.heap.size < X.heap.size ∧ X.cell? ⟨W16.heap.size, 0, none⟩ = some (.string lon) ∧ X.cell? ⟨W16.heap.size, 1, none⟩ = some (.string lod)) := fun X h => ⟨h.1, Row.cell_at h 0 rfl, Row.cell_at h 1 rfl⟩
        obtain ⟨slo, clo0, clo1⟩ := Flo _ rlo
        refine (SH _ (he.env.below hB)).mono ?_
        rintro e W18 ⟨rfl, h1⟩
        clear sst cst0 cst1 fst0 fst1
        clear slo clo0 clo1
        replace hB := hB.trans (h1.mono hB.size)
        replace rst := Row.below rst h1
        replace rlo := Row.below rlo h1
        clear h1
        obtain ⟨sst, cst0, cst1, fst0, fst1⟩ := Fst _ rst
        obtain ⟨slo, clo0, clo1⟩ := Flo _ rlo
        clear SL SH
        go_upto_region 19 with fail
        have dst_hi : W14.heap.size < W18.heap.size := by omega
        have sB := hB.size
        refine wp_cut (fun X => Below w.heap.size w X ∧ Row X W14.heap.size (.cells #[.string (S u.num), .string (S (u.den : Int))] 26) ∧ Row X W16.heap.size (.cells #[.string lon, .string lod] 26) ∧ Row X W18.heap.size (.cells #[.string hin, .string hid] 26)) ⟨BW, RW, RW, RW⟩ ?_
        clear rst
        clear sst cst0 cst1 fst0 fst1
        clear rlo
        clear slo clo0 clo1
        clear hB sB
        rintro V19 ⟨hB, rst, rlo, rhi⟩
        obtain ⟨sst, cst0, cst1, fst0, fst1⟩ := Fst _ rst
        obtain ⟨slo, clo0, clo1⟩ := Flo _ rlo
        have Fhi : ∀ X, Row X W18.heap.size (.cells #[.string hin, .string hid] 26) → (W18.heap.size < X.heap.size ∧ X.cell? ⟨W18.heap.size, 0, none⟩ = some (.string hin) ∧ X.cell? ⟨W18.heap.size, 1, none⟩ = some (.string hid)) := fun X h => ⟨h.1, Row.cell_at h 0 rfl, Row.cell_at h 1 rfl⟩
        obtain ⟨shi, chi0, chi1⟩ := Fhi _ rhi
        refine wp_region_vals_seq [.bool true, .bool true, .int .i64 0, .bool false, .bool false, .agg #[.string lon, .string lod], .agg #[.string (S u.num), .string (S (u.den : Int))], .int .i64 c1, .bool true, .bool true, .bool true, .bool true, .int .i64 0, .bool false, .bool false, .agg #[.string hin, .string hid], .agg #[.string (S u.num), .string (S (u.den : Int))], .int .i64 c2, .bool true, .bool true, .bool true, .bool true] (by kernel_rfl) rfl (allVals.cons qv0 (allVals.cons qv0 (allVals.cons qv0 (allVals.cons qv0 (allVals.cons qv0 (allVals.cons (qv1 fun X h => Flo X (Row.below rlo h)) (allVals.cons (qv1 fun X h => Fst X (Row.below rst h)) (allVals.cons (qv2 fun X h => K1 X (he.env.below (hB.trans (h.mono hB.size)))) (allVals.cons (qvf g1) (allVals.cons qv0 (allVals.cons qv0 (allVals.cons qv0 (allVals.cons qv0 (allVals.cons qv0 (allVals.cons qv0 (allVals.cons (qv1 fun X h => Fhi X (Row.below rhi h)) (allVals.cons (qv1 fun X h => Fst X (Row.below rst h)) (allVals.cons (qv2 fun X h => K2 X (he.env.below (hB.trans (h.mono hB.size)))) (allVals.cons (qvf g2) (allVals.cons qv0 (allVals.cons qv0 (allVals.cons qv0 trivial)))))))))))))))))))))) ?_
        rintro W h1
        clear sst cst0 cst1 fst0 fst1
        clear slo clo0 clo1
        clear shi chi0 chi1
        replace hB := hB.trans (h1.mono hB.size)
        replace rst := Row.below rst h1
        replace rlo := Row.below rlo h1
        replace rhi := Row.below rhi h1
        clear h1
        obtain ⟨sst, cst0, cst1, fst0, fst1⟩ := Fst _ rst
        obtain ⟨slo, clo0, clo1⟩ := Flo _ rlo
        obtain ⟨shi, chi0, chi1⟩ := Fhi _ rhi
        simp only [setVals, List.setIfInBounds_toArray, List.set_cons_succ, List.set_cons_zero]
        go_wp2
        go_ret
        exact ⟨rfl, hB⟩
end Go.Proofs.YtngohpgkceedeaaGreatDoor
