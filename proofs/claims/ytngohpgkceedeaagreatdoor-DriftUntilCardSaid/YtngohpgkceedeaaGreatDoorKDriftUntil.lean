/-
  DriftUntil: the walk.
-/
import Derived.Test.YtngohpgkceedeaaGreatDoorKDArgs
import Derived.Test.YtngohpgkceedeaaGreatDoorKDWidth
set_option linter.unusedSimpArgs false
set_option linter.unusedVariables false
namespace Go.Proofs.YtngohpgkceedeaaGreatDoor
open Go Go.RowKit Go.Lib Go.Shelf
attribute [local go_sem] normalQ

theorem dknown_n {r : Rat} {l : List Pt} (T : Int) {k : Nat} {lk : List Pt} (hk : upTo l T = k) (hl : l.take k = lk) (ho : Hist.Ok ⟨r, l⟩) (p : Option Addr) (n c : Nat) (hn : l.length = n) (hnc : n ≤ c) (w : World) (hp : PAt w p l) (he : Env w) :
    Calls Tryz.prog 36 #[.agg #[.string (S r.num), .string (S (r.den : Int)), .slice p n c], .int .i64 T] w (fun e w' => ∃ p c, (PAt w' p lk ∧ k ≤ c) ∧ e = .returned (.agg #[.string (S r.num), .string (S (r.den : Int)), .slice p k c]) ∧ Below w.heap.size w w') := by
  subst hk hl
  have hlen : (l.take (upTo l T)).length = upTo l T := by rw [List.length_take]; have := upTo_le l T; omega
  exact (dknown T ho p n c hn hnc w hp he).mono fun e w' ⟨p', c', hown, h1, h2⟩ => ⟨p', c', ⟨own_patR hown hlen, own_le hown⟩, h1, h2⟩
theorem ewidth_is {a : Iv} {v : Rat} (h : IDig 15 a) (ho : a.Ok) (hv : a.hi - a.lo = v) (w : World) (he : Env w) : Calls Tryz.prog 48 #[I a] w (QOk v w) := by
  subst hv
  exact (ewidth h ho (by omega) w he).mono fun e w' ⟨x, hx, h1, h2⟩ => ⟨by rw [h1, hx], h2⟩
/-- The three ways in which Until ends. -/
def UWays (r : Rat) (lk : List Pt) (f : Nat) (bd : Rat) (z : Int) (b : Bool) : Prop :=
  (z = 0 ∧ b = false ∧ ¬ (0 < lk.length ∧ Free ⟨r, lk⟩)) ∨
  (z = 0 ∧ b = false ∧ ∃ o, 0 < lk.length ∧ Free ⟨r, lk⟩ ∧ Knows ⟨r, lk⟩ f o ∧ bd < o.hi - o.lo) ∨
  (b = true ∧ ∃ o n N, z = ((n : Nat) : Int) ∧ n = f + N ∧ n ≤ 1000000 ∧ 0 < lk.length ∧ Free ⟨r, lk⟩ ∧ Knows ⟨r, lk⟩ f o ∧ o.hi - o.lo + far r (2 * N) ≤ bd ∧ (n < 1000000 → bd < o.hi - o.lo + far r (2 * (N + 1))))
theorem uways {r : Rat} {lk : List Pt} {f n : Nat} {bd : Rat} {b : Bool} (h : UntilIs ⟨r, lk⟩ f bd n b) : UWays r lk f bd n b := by
  cases h with
  | none h =>
    refine .inl ⟨rfl, rfl, fun ⟨h1, h2⟩ => ?_⟩
    rcases h with h | h
    · simp only at h; rw [h] at h1; simp at h1
    · exact h h2
  | @wide o h1 h2 h3 h4 => exact .inr (.inl ⟨rfl, rfl, o, List.length_pos_iff.2 h1, h2, h3, h4⟩)
  | @last o N h1 h2 h3 h4 h5 h6 => exact .inr (.inr ⟨rfl, o, _, N, rfl, rfl, h4, List.length_pos_iff.2 h1, h2, h3, h5, h6⟩)
theorem duntil_ways {r wd : Rat} {l lk : List Pt} (ho : Hist.Ok ⟨r, l⟩) {f : Nat} (hf : f ≤ 1000000) (hl : l.take (upTo l f) = lk) (hwd : QDig 200 wd) (p : Option Addr) (m c : Nat) (hm : l.length = m) (hmc : m ≤ c) (w : World) (hp : PAt w p l) (he : Env w) :
    Calls Tryz.prog 33 #[.agg #[.string (S r.num), .string (S (r.den : Int)), .slice p m c], .int .i64 (f : Int), .agg #[.string (S wd.num), .string (S (wd.den : Int))]] w
      fun e w' => ∃ (z : Int) (b : Bool), UWays r lk f wd z b ∧ e = .returned (.tuple #[.int .i64 z, .bool b]) ∧ Below w.heap.size w w' := by
  subst hl
  exact (duntil ho hf hwd p m c hm hmc w hp he).mono fun e w' ⟨n, b, h1, h2, h3⟩ => ⟨n, b, uways h1, h2, h3⟩
/-- What is known of the points up to a time. -/
structure UCtx (r : Rat) (l : List Pt) (f : Nat) : Prop where
  ok : Hist.Ok ⟨r, l⟩
  r2 : QDig 2 r
  ivs : ∀ p, p ∈ l → IDig 2 p.iv
  le : ∀ p, p ∈ l → p.t ≤ f
theorem uctx {r : Rat} {l lk : List Pt} {f : Nat} (h : HMade ⟨r, l⟩) (hl : l.take (upTo l f) = lk) : UCtx r lk f := by
  have h1 := known_ok h.ok (f : Int)
  have h2 := known_times ⟨r, l⟩ h.ok (f : Int)
  unfold known at h1 h2
  simp only [hl] at h1 h2
  exact ⟨h1, h.rdig, fun p hp => h.ivs p (List.mem_of_mem_take (by rw [hl]; exact hp)), fun p hp => by have := h2 p hp; omega⟩
theorem UCtx.iv {r : Rat} {l : List Pt} {f t : Nat} {o : Iv} (h : UCtx r l f) (hf : Free ⟨r, l⟩) (ht : t ≤ 1000000) (k : Knows ⟨r, l⟩ t o) : IDig 15 o ∧ o.Ok :=
  ⟨known_dig (h.r2.mono (by omega)) h.ivs ht h.ok.times k, k.ok h.ok.rate hf⟩
set_option maxRecDepth 100000 in
set_option maxHeartbeats 16000000 in
theorem driftUntil_any {a0 : Addr} (r0 r1 : Int) (px : Option Addr) (nx cx : Nat) (fx : Nat → Nat → Int) (ti y0 y1 : Int) (hr : IsInt r0 ∧ IsInt r1) (w : World) (hx : nx ≤ 9223372036854775807 ∧ XK 4 w px nx fx ∧ ∀ i j, i < nx → j < 4 → IsInt (fx i j)) (hti : IsInt ti) (hy : IsInt y0 ∧ IsInt y1) (he : EnvE a0 w) :
    Calls Tryz.prog 11 #[.agg #[.int .i64 r0, .int .i64 r1], .slice px nx cx, .int .i64 ti, .agg #[.int .i64 y0, .int .i64 y1]] w (BoolOk true w) := by
  have hB : Below w.heap.size w w := Below.refl _ _
  have NER : (26 : TypeId) ≠ 53 := by decide
  have MS := fun W (H : Env W) => sane12 W H
  have WZ := fun W (H : EnvE a0 W) => ewidth_zero W H
  obtain ⟨hnx, hX, hfx⟩ := hx
  have HXX := Lib.hid hX
  have TT := fun W => pickL12 ti 130 hti (by decide) W
  have t1 := pk_nonneg ti (n := 130) (by decide)
  have t2 := pk_lt ti (n := 130) (by decide)
  obtain ⟨f, ht⟩ : ∃ f : Nat, pk ti 130 = (f : Int) := ⟨(pk ti 130).toNat, by omega⟩
  rw [ht] at TT
  have hf3 : f ≤ 1000000 := by omega
  clear t1 t2 ht hti
  have K1 := fun W => pickL12 y0 60 hy.1 (by decide) W
  have K2 := fun W => pickL12 y1 5 hy.2 (by decide) W
  have b1 := pk_nonneg y0 (n := 60) (by decide)
  have b2 := pk_lt y0 (n := 60) (by decide)
  have c1 := pk_nonneg y1 (n := 5) (by decide)
  have c2 := pk_lt y1 (n := 5) (by decide)
  have MO := fun W (H : Env W) => lof (n := pk y0 60) (d := 1 + pk y1 5) ⟨by omega, by omega⟩ ⟨by omega, by omega⟩ (by omega) W H
  have dbd : QDig 2 (Rat.divInt (pk y0 60) (1 + pk y1 5)) := QDig.ofInt (by omega) (by unfold Dig; omega) (by unfold Dig; omega)
  have hw : IntKind.i64.wrap (1 + pk y1 5) = 1 + pk y1 5 := by rw [IntKind.wrap_i64]; omega
  generalize Rat.divInt (pk y0 60) (1 + pk y1 5) = bd at *
  generalize pk y0 60 = k1 at *
  generalize pk y1 5 = k2 at *
  clear b1 b2 c1 c2 hy
  have hmd := (made_ok r0 r1 fx (min nx 8) (by omega)).1
  obtain ⟨r, hr0⟩ : ∃ r, madeRate r0 r1 = r := ⟨_, rfl⟩
  obtain ⟨l, hl0⟩ : ∃ l, madeL fx (min nx 8) = l := ⟨_, rfl⟩
  obtain ⟨m, hm0⟩ : ∃ m, l.length = m := ⟨_, rfl⟩
  rw [hr0, hl0] at hmd
  have MM := fun W (h : X4 W px nx fx) => made_n (cx := cx) hr.1 hr.2 hfx hnx hr0 hl0 hm0 W h
  obtain ⟨mk, hmk⟩ : ∃ k, upTo l (f : Int) = k := ⟨_, rfl⟩
  obtain ⟨lk, hlk⟩ : ∃ x, l.take mk = x := ⟨_, rfl⟩
  have hlk2 : l.take (upTo l (f : Int)) = lk := by rw [hmk]; exact hlk
  have hlkn : lk.length = mk := by rw [← hlk, List.length_take]; have := upTo_le l (f : Int); omega
  have MK := fun W p c (hc : m ≤ c) (hp : PAt W p l) (H : Env W) => dknown_n (f : Int) hmk hlk hmd.ok p m c hm0 hc W hp H
  have MU := fun W p c (hc : m ≤ c) (hp : PAt W p l) (H : Env W) => duntil_ways hmd.ok hf3 hlk2 (dbd.mono (by omega)) p m c hm0 hc W hp H
  have UC := uctx hmd hlk2
  have hmk8 : mk ≤ 8 := by have := upTo_le l (f : Int); have := hmd.few; simp only at this; omega
  have HLN := Lib.hid hlkn
  have DBD := Lib.hid dbd
  clear hr0 hl0 hm0 hmd hmk hlk hlk2 hlkn hX hfx hr hnx dbd
  unfold BoolOk at MS
  unfold rtErr at WZ
  unfold Q at *
  go_enter Tryz.func11, Tryz.ntmps11
  go_wp2_with fail
  have sB := hB.size
  refine world_cut (fun X => Below w.heap.size w X ∧ Row X w.heap.size (.cells #[.int .i64 r0, .int .i64 r1] 50) ∧ Row X (w.heap.size + 1) (.cells #[.int .i64 y0, .int .i64 y1] 50)) ⟨BW, RWk, RWk⟩ ?_
  clear hB sB
  rintro V1 ⟨hB, rrt, rbw⟩
  have Frt : ∀ X, Row X w.heap.size (.cells #[.int .i64 r0, .int .i64 r1] 50) → (w.heap.size < X.heap.size ∧ X.cell? ⟨w.heap.size, 0, none⟩ = some (.int .i64 r0) ∧ X.cell? ⟨w.heap.size, 1, none⟩ = some (.int .i64 r1)) := fun X h => ⟨h.1, Row.cell_at h 0 rfl, Row.cell_at h 1 rfl⟩
  obtain ⟨srt, crt0, crt1⟩ := Frt _ rrt
  have Fbw : ∀ X, Row X (w.heap.size + 1) (.cells #[.int .i64 y0, .int .i64 y1] 50) → (w.heap.size + 1 < X.heap.size ∧ X.cell? ⟨w.heap.size + 1, 0, none⟩ = some (.int .i64 y0) ∧ X.cell? ⟨w.heap.size + 1, 1, none⟩ = some (.int .i64 y1)) := fun X h => ⟨h.1, Row.cell_at h 0 rfl, Row.cell_at h 1 rfl⟩
  obtain ⟨sbw, cbw0, cbw1⟩ := Fbw _ rbw
  refine (MS _ (he.env.below hB)).mono ?_
  rintro e W2 ⟨rfl, h1⟩
  clear srt crt0 crt1
  clear sbw cbw0 cbw1
  replace hB := hB.trans (h1.mono hB.size)
  replace rrt := Row.below rrt h1
  replace rbw := Row.below rbw h1
  clear h1
  obtain ⟨srt, crt0, crt1⟩ := Frt _ rrt
  obtain ⟨sbw, cbw0, cbw1⟩ := Fbw _ rbw
  go_wp2_with fail
  refine (TT _).mono ?_
  rintro e W3 ⟨rfl, h1⟩
  clear srt crt0 crt1
  clear sbw cbw0 cbw1
  replace hB := hB.trans (h1.mono hB.size)
  replace rrt := Row.below rrt h1
  replace rbw := Row.below rbw h1
  clear h1
  obtain ⟨srt, crt0, crt1⟩ := Frt _ rrt
  obtain ⟨sbw, cbw0, cbw1⟩ := Fbw _ rbw
  go_wp2_with fail
  have drt_bud := rrt.1
  have dbw_bud := rbw.1
  have d0_bud := hB.size
  refine wp_region_items 9 [.val (.pointer (some ⟨w.heap.size + 1, 0, none⟩)), .val (.int .i64 y0), .val (.int .i64 k1), .val (.pointer (some ⟨w.heap.size + 1, 1, none⟩)), .val (.int .i64 y1), .val (.int .i64 k2), .val (.int .i64 (1 + k2)), .val (.agg #[.string (S bd.num), .string (S (bd.den : Int))]), .say (fresh _ (.cells #[.string ⟨#[]⟩, .string ⟨#[]⟩] 26))] (by kernel_rfl) (by kernel_rfl) ⟨fresh_mono _ _, trivial⟩ (allItems.cons qi0 (allItems.cons (qi1 fun X h => Fbw X (Row.below rbw h)) (allItems.cons (qi2 fun X h => K1 X) (allItems.cons qi0 (allItems.cons (qi1 fun X h => Fbw X (Row.below rbw h)) (allItems.cons (qi2 fun X h => K2 X) (allItems.cons (qif hw) (allItems.cons (qi2 fun X h => MO X (he.env.below (hB.trans (h.mono hB.size)))) (allItems.cons qia trivial))))))))) ?_
  rintro W h1
  clear srt crt0 crt1
  clear sbw cbw0 cbw1
  replace hB := hB.trans (h1.mono hB.size)
  replace rrt := Row.below rrt h1
  replace rbw := Row.below rbw h1
  clear h1
  obtain ⟨srt, crt0, crt1⟩ := Frt _ rrt
  obtain ⟨sbw, cbw0, cbw1⟩ := Fbw _ rbw
  simp only [setItems, List.setIfInBounds_toArray, List.set_cons_succ, List.set_cons_zero, List.take_succ_cons, List.take_zero, List.drop_succ_cons, List.drop_zero]
  rintro _ ⟨pbud, rfl, hbud, rbud⟩
  replace drt_bud := Nat.lt_of_lt_of_le drt_bud hbud
  replace dbw_bud := Nat.lt_of_lt_of_le dbw_bud hbud
  replace d0_bud := Nat.le_trans d0_bud hbud
  have Fbud : ∀ X, Row X pbud (.cells #[.string ⟨#[]⟩, .string ⟨#[]⟩] 26) → (pbud < X.heap.size ∧ X.cell? ⟨pbud, 0, none⟩ = some (.string ⟨#[]⟩) ∧ X.cell? ⟨pbud, 1, none⟩ = some (.string ⟨#[]⟩) ∧ X.frozen? ⟨pbud, 0, none⟩ = false ∧ X.frozen? ⟨pbud, 1, none⟩ = false) := fun X h => ⟨h.1, Row.cell_at h 0 rfl, Row.cell_at h 1 rfl, frozen_of_row _ _ 0 _ _ h.2, frozen_of_row _ _ 1 _ _ h.2⟩
  obtain ⟨sbud, cbud0, cbud1, fbud0, fbud1⟩ := Fbud _ rbud
  go_wp2_with fail
  clear Frt
  clear Fbw
  have sB := hB.size
  refine world_cut (fun X => Below w.heap.size w X ∧ Row X pbud (.cells #[.string (S bd.num), .string (S (bd.den : Int))] 26)) ⟨BW, RWk⟩ ?_
  clear rrt
  clear srt crt0 crt1
  clear rbw
  clear sbw cbw0 cbw1
  clear rbud
  clear sbud cbud0 cbud1 fbud0 fbud1
  clear hB sB
  rintro V4 ⟨hB, rbud⟩
  clear Fbud
  have Fbud : ∀ X, Row X pbud (.cells #[.string (S bd.num), .string (S (bd.den : Int))] 26) → (pbud < X.heap.size ∧ X.cell? ⟨pbud, 0, none⟩ = some (.string (S bd.num)) ∧ X.cell? ⟨pbud, 1, none⟩ = some (.string (S (bd.den : Int))) ∧ X.frozen? ⟨pbud, 0, none⟩ = false ∧ X.frozen? ⟨pbud, 1, none⟩ = false) := fun X h => ⟨h.1, Row.cell_at h 0 rfl, Row.cell_at h 1 rfl, frozen_of_row _ _ 0 _ _ h.2, frozen_of_row _ _ 1 _ _ h.2⟩
  obtain ⟨sbud, cbud0, cbud1, fbud0, fbud1⟩ := Fbud _ rbud
  refine (MM _ (X4.below HXX.out hB)).mono ?_
  rintro e W5 ⟨p, c, ⟨hp, hmc⟩, rfl, h1⟩
  clear sbud cbud0 cbud1 fbud0 fbud1
  replace hB := hB.trans (h1.mono hB.size)
  replace rbud := Row.below rbud h1
  clear h1
  obtain ⟨sbud, cbud0, cbud1, fbud0, fbud1⟩ := Fbud _ rbud
  go_wp2_with fail
  have dbud_h : pbud < W5.heap.size := by omega
  have sB := hB.size
  refine world_cut (fun X => Below w.heap.size w X ∧ Row X pbud (.cells #[.string (S bd.num), .string (S (bd.den : Int))] 26) ∧ Row X W5.heap.size (.cells #[.string (S r.num), .string (S (r.den : Int)), .slice p m c] 49) ∧ PAt X p l) ⟨BW, RWk, RWk, (by first | with_reducible exact pat_set2 hp rbud NER | with_reducible exact pat_set2 hp rgr NER | exact PAt.below hp BW)⟩ ?_
  clear rbud
  clear sbud cbud0 cbud1 fbud0 fbud1
  clear hB sB hp
  rintro V6 ⟨hB, rbud, rh, hp⟩
  obtain ⟨sbud, cbud0, cbud1, fbud0, fbud1⟩ := Fbud _ rbud
  have Fh : ∀ X, Row X W5.heap.size (.cells #[.string (S r.num), .string (S (r.den : Int)), .slice p m c] 49) → (W5.heap.size < X.heap.size ∧ X.cell? ⟨W5.heap.size, 0, none⟩ = some (.string (S r.num)) ∧ X.cell? ⟨W5.heap.size, 1, none⟩ = some (.string (S (r.den : Int))) ∧ X.cell? ⟨W5.heap.size, 2, none⟩ = some (.slice p m c)) := fun X h => ⟨h.1, Row.cell_at h 0 rfl, Row.cell_at h 1 rfl, Row.cell_at h 2 rfl⟩
  obtain ⟨sh, ch0, ch1, ch2⟩ := Fh _ rh
  refine (MK _ _ _ hmc hp (he.env.below hB)).mono ?_
  rintro e W7 ⟨pk, ck, ⟨hpk, hkc⟩, rfl, h1⟩
  clear sbud cbud0 cbud1 fbud0 fbud1
  clear sh ch0 ch1 ch2
  replace hB := hB.trans (h1.mono hB.size)
  replace rbud := Row.below rbud h1
  replace rh := Row.below rh h1
  replace hp := PAt.below hp h1
  clear h1
  obtain ⟨sbud, cbud0, cbud1, fbud0, fbud1⟩ := Fbud _ rbud
  obtain ⟨sh, ch0, ch1, ch2⟩ := Fh _ rh
  have HPX := True.intro
  go_wp2_with fail
  have dbud_k : pbud < W7.heap.size := by omega
  have sB := hB.size
  refine wp_cut (fun X => Below w.heap.size w X ∧ Row X pbud (.cells #[.string (S bd.num), .string (S (bd.den : Int))] 26) ∧ Row X W5.heap.size (.cells #[.string (S r.num), .string (S (r.den : Int)), .slice p m c] 49) ∧ Row X W7.heap.size (.cells #[.string (S r.num), .string (S (r.den : Int)), .slice pk mk ck] 49) ∧ PAt X p l ∧ PAt X pk lk) ⟨BW, RWk, RWk, RWk, (by first | with_reducible exact pat_set2 hp rbud NER | with_reducible exact pat_set2 hp rgr NER | exact PAt.below hp BW), (by first | with_reducible exact pat_set2 hpk rbud NER | with_reducible exact pat_set2 hpk rgr NER | exact PAt.below hpk BW)⟩ ?_
  clear rbud
  clear sbud cbud0 cbud1 fbud0 fbud1
  clear rh
  clear sh ch0 ch1 ch2
  clear hB sB hp hpk
  rintro V8 ⟨hB, rbud, rh, rk, hp, hpk⟩
  obtain ⟨sbud, cbud0, cbud1, fbud0, fbud1⟩ := Fbud _ rbud
  obtain ⟨sh, ch0, ch1, ch2⟩ := Fh _ rh
  have Fk : ∀ X, Row X W7.heap.size (.cells #[.string (S r.num), .string (S (r.den : Int)), .slice pk mk ck] 49) → (W7.heap.size < X.heap.size ∧ X.cell? ⟨W7.heap.size, 0, none⟩ = some (.string (S r.num)) ∧ X.cell? ⟨W7.heap.size, 1, none⟩ = some (.string (S (r.den : Int))) ∧ X.cell? ⟨W7.heap.size, 2, none⟩ = some (.slice pk mk ck)) := fun X h => ⟨h.1, Row.cell_at h 0 rfl, Row.cell_at h 1 rfl, Row.cell_at h 2 rfl⟩
  obtain ⟨sk, ck0, ck1, ck2⟩ := Fk _ rk
  go_loopw [13] (fun v13 wr => ∃ i : Nat, v13 = .int .i64 (i : Int) ∧ i ≤ mk ∧ PAt wr p l ∧ PAt wr pk lk ∧ Below w.heap.size w wr ∧ Row wr pbud (.cells #[.string (S bd.num), .string (S (bd.den : Int))] 26) ∧ Row wr W5.heap.size (.cells #[.string (S r.num), .string (S (r.den : Int)), .slice p m c] 49) ∧ Row wr W7.heap.size (.cells #[.string (S r.num), .string (S (r.den : Int)), .slice pk mk ck] 49)) (fun v13 _ => (mk - intOf v13).toNat)
  case atStart => exact ⟨0, rfl, Nat.zero_le _, hp, hpk, hB, rbud, rh, rk⟩
  case round =>
    clear sbud cbud0 cbud1 fbud0 fbud1
    clear sh ch0 ch1 ch2
    clear sk ck0 ck1 ck2
    clear hB rbud rh rk
    obtain ⟨i, rfl, him, hp, hpk, hB, rbud, rh, rk⟩ := hrel
    rcases Nat.lt_or_ge i mk with hlt | hge
    · have hlt' : i < lk.length := by rw [HLN.out]; exact hlt
      obtain ⟨u, hu⟩ : ∃ u, u = ptD lk i := ⟨_, rfl⟩
      have hul : u.t ≤ f := UC.le u (hu ▸ ptD_mem hlt')
      obtain ⟨g, cur, hpg, rg, g0, g1, g2, g3, g4⟩ := PAt.at hpk hlt'
      rw [← hu] at g0
      clear hu g1 g2 g3 g4
      subst hpg
      have Fbud : ∀ X, Row X pbud (.cells #[.string (S bd.num), .string (S (bd.den : Int))] 26) → (pbud < X.heap.size ∧ X.cell? ⟨pbud, 0, none⟩ = some (.string (S bd.num)) ∧ X.cell? ⟨pbud, 1, none⟩ = some (.string (S (bd.den : Int))) ∧ X.frozen? ⟨pbud, 0, none⟩ = false ∧ X.frozen? ⟨pbud, 1, none⟩ = false) := fun X h => ⟨h.1, Row.cell_at h 0 rfl, Row.cell_at h 1 rfl, frozen_of_row _ _ 0 _ _ h.2, frozen_of_row _ _ 1 _ _ h.2⟩
      obtain ⟨sbud, cbud0, cbud1, fbud0, fbud1⟩ := Fbud _ rbud
      have Fh : ∀ X, Row X W5.heap.size (.cells #[.string (S r.num), .string (S (r.den : Int)), .slice p m c] 49) → (W5.heap.size < X.heap.size ∧ X.cell? ⟨W5.heap.size, 0, none⟩ = some (.string (S r.num)) ∧ X.cell? ⟨W5.heap.size, 1, none⟩ = some (.string (S (r.den : Int))) ∧ X.cell? ⟨W5.heap.size, 2, none⟩ = some (.slice p m c)) := fun X h => ⟨h.1, Row.cell_at h 0 rfl, Row.cell_at h 1 rfl, Row.cell_at h 2 rfl⟩
      obtain ⟨sh, ch0, ch1, ch2⟩ := Fh _ rh
      have Fk : ∀ X, Row X W7.heap.size (.cells #[.string (S r.num), .string (S (r.den : Int)), .slice (some ⟨g, 0, none⟩) mk ck] 49) → (W7.heap.size < X.heap.size ∧ X.cell? ⟨W7.heap.size, 0, none⟩ = some (.string (S r.num)) ∧ X.cell? ⟨W7.heap.size, 1, none⟩ = some (.string (S (r.den : Int))) ∧ X.cell? ⟨W7.heap.size, 2, none⟩ = some (.slice (some ⟨g, 0, none⟩) mk ck)) := fun X h => ⟨h.1, Row.cell_at h 0 rfl, Row.cell_at h 1 rfl, Row.cell_at h 2 rfl⟩
      obtain ⟨sk, ck0, ck1, ck2⟩ := Fk _ rk
      have Fg : ∀ X, Row X g (.cells cur 53) → (g < X.heap.size ∧ X.cell? ⟨g, i * 5, none⟩ = some (.int .i64 (u.t : Int))) := fun X h => ⟨h.1, Row.cell_at h _ g0⟩
      obtain ⟨sg, cg0⟩ := Fg _ rg
      have hi : (i : Int) < (mk : Int) := by omega
      have hul2 : (u.t : Int) ≤ (f : Int) := by omega
      go_wp2
      go_roundw
      case rel => exact ⟨i + 1, by go_num, by omega, (by first | exact PAt.below hp BW), (by first | exact PAt.below hpk BW), BW, RWh, RWh, RWh⟩
      case measure => simp [intOf]; omega
    · obtain rfl : mk = i := by omega
      obtain ⟨sbud, cbud0, cbud1, fbud0, fbud1⟩ := Fbud _ rbud
      obtain ⟨sh, ch0, ch1, ch2⟩ := Fh _ rh
      have Fk : ∀ X, Row X W7.heap.size (.cells #[.string (S r.num), .string (S (r.den : Int)), .slice pk mk ck] 49) → (W7.heap.size < X.heap.size ∧ X.cell? ⟨W7.heap.size, 0, none⟩ = some (.string (S r.num)) ∧ X.cell? ⟨W7.heap.size, 1, none⟩ = some (.string (S (r.den : Int))) ∧ X.cell? ⟨W7.heap.size, 2, none⟩ = some (.slice pk mk ck)) := fun X h => ⟨h.1, Row.cell_at h 0 rfl, Row.cell_at h 1 rfl, Row.cell_at h 2 rfl⟩
      obtain ⟨sk, ck0, ck1, ck2⟩ := Fk _ rk
      go_wp2_with fail
      refine (MU _ _ _ hmc hp (he.env.below hB)).mono ?_
      rintro e W9 ⟨z, bl, hu, rfl, h1⟩
      clear sbud cbud0 cbud1 fbud0 fbud1
      clear sh ch0 ch1 ch2
      clear sk ck0 ck1 ck2
      replace hB := hB.trans (h1.mono hB.size)
      replace rbud := Row.below rbud h1
      replace rh := Row.below rh h1
      replace rk := Row.below rk h1
      replace hp := PAt.below hp h1
      replace hpk := PAt.below hpk h1
      clear h1
      obtain ⟨sbud, cbud0, cbud1, fbud0, fbud1⟩ := Fbud _ rbud
      obtain ⟨sh, ch0, ch1, ch2⟩ := Fh _ rh
      obtain ⟨sk, ck0, ck1, ck2⟩ := Fk _ rk
      have HU := Lib.hid hu; clear hu
      clear hp
      rcases HU.out with ⟨rfl, rfl, hx⟩ | ⟨rfl, rfl, o, hl1, hfr, ko, hbd⟩ | ⟨rfl, o, nl, N, rfl, hnl, hn1, hl1, hfr, ko, hle, hgt⟩
      · clear HU
        have DA := fun W p c (hp : PAt W p lk) (H : Env W) => dat_off UC.ok (t := f) hf3 p mk c HLN.out (by rw [← HLN.out]; exact hx) W hp H
        unfold AtErr at DA
        clear hx
        go_wp2_with fail
        refine (DA _ _ _ hpk (he.env.below hB)).mono ?_
        rintro e W10 ⟨rfl, h1⟩
        clear sbud cbud0 cbud1 fbud0 fbud1
        clear sh ch0 ch1 ch2
        clear sk ck0 ck1 ck2
        replace hB := hB.trans (h1.mono hB.size)
        replace rbud := Row.below rbud h1
        replace rh := Row.below rh h1
        replace rk := Row.below rk h1
        replace hpk := PAt.below hpk h1
        clear h1
        obtain ⟨sbud, cbud0, cbud1, fbud0, fbud1⟩ := Fbud _ rbud
        obtain ⟨sh, ch0, ch1, ch2⟩ := Fh _ rh
        obtain ⟨sk, ck0, ck1, ck2⟩ := Fk _ rk
        go_wp2_with fail
        have sB := hB.size
        refine world_cut (fun X => Below w.heap.size w X ∧ Row X pbud (.cells #[.string (S bd.num), .string (S (bd.den : Int))] 26) ∧ Row X W5.heap.size (.cells #[.string (S r.num), .string (S (r.den : Int)), .slice p m c] 49) ∧ Row X W7.heap.size (.cells #[.string (S r.num), .string (S (r.den : Int)), .slice pk mk ck] 49) ∧ PAt X pk lk) ⟨BW, RWk, RWk, RWk, (by first | with_reducible exact pat_set2 hpk rbud NER | with_reducible exact pat_set2 hpk rgr NER | exact PAt.below hpk BW)⟩ ?_
        clear rbud
        clear sbud cbud0 cbud1 fbud0 fbud1
        clear rh
        clear sh ch0 ch1 ch2
        clear rk
        clear sk ck0 ck1 ck2
        clear hB sB hpk
        rintro V11 ⟨hB, rbud, rh, rk, hpk⟩
        obtain ⟨sbud, cbud0, cbud1, fbud0, fbud1⟩ := Fbud _ rbud
        obtain ⟨sh, ch0, ch1, ch2⟩ := Fh _ rh
        obtain ⟨sk, ck0, ck1, ck2⟩ := Fk _ rk
        refine (WZ _ (he.below hB)).mono ?_
        rintro e W12 ⟨rfl, h1⟩
        clear sbud cbud0 cbud1 fbud0 fbud1
        clear sh ch0 ch1 ch2
        clear sk ck0 ck1 ck2
        replace hB := hB.trans (h1.mono hB.size)
        replace rbud := Row.below rbud h1
        replace rh := Row.below rh h1
        replace rk := Row.below rk h1
        replace hpk := PAt.below hpk h1
        clear h1
        obtain ⟨sbud, cbud0, cbud1, fbud0, fbud1⟩ := Fbud _ rbud
        obtain ⟨sh, ch0, ch1, ch2⟩ := Fh _ rh
        obtain ⟨sk, ck0, ck1, ck2⟩ := Fk _ rk
        go_wp2
        go_ret
        exact ⟨rfl, BW⟩
      · clear HU
        have hl1k : 0 < mk := by rw [← HLN.out]; exact hl1
        have DA := fun W p c (hp : PAt W p lk) (H : Env W) => dat_known UC.ok hfr ko hf3 p mk c HLN.out hl1k W hp H
        obtain ⟨wd, hwd⟩ : ∃ v, o.hi - o.lo = v := ⟨_, rfl⟩
        have doo := UC.iv hfr hf3 ko
        have WO := fun W (H : Env W) => ewidth_is doo.1 doo.2 hwd W H
        have dwd : QDig 31 wd := by rw [← hwd]; exact QDig.sub (j := 15) (k := 15) doo.1.2 doo.1.1
        unfold QOk I Q at WO
        rw [hwd] at hbd
        have MC := fun W (H : Env W) => qcompare wd bd (dwd.mono (by omega)) (DBD.out.mono (by omega)) W H
        have hc : 0 < cmpQ wd bd := cmpQ_gt.2 hbd
        unfold CmpOk Q at MC
        clear hwd hbd ko doo
        go_wp2_with fail
        refine (DA _ _ _ hpk (he.env.below hB)).mono ?_
        rintro e W10 ⟨rfl, h1⟩
        clear sbud cbud0 cbud1 fbud0 fbud1
        clear sh ch0 ch1 ch2
        clear sk ck0 ck1 ck2
        replace hB := hB.trans (h1.mono hB.size)
        replace rbud := Row.below rbud h1
        replace rh := Row.below rh h1
        replace rk := Row.below rk h1
        replace hpk := PAt.below hpk h1
        clear h1
        obtain ⟨sbud, cbud0, cbud1, fbud0, fbud1⟩ := Fbud _ rbud
        obtain ⟨sh, ch0, ch1, ch2⟩ := Fh _ rh
        obtain ⟨sk, ck0, ck1, ck2⟩ := Fk _ rk
        go_wp2_with fail
        have sB := hB.size
        refine world_cut (fun X => Below w.heap.size w X ∧ Row X pbud (.cells #[.string (S bd.num), .string (S (bd.den : Int))] 26) ∧ Row X W5.heap.size (.cells #[.string (S r.num), .string (S (r.den : Int)), .slice p m c] 49) ∧ Row X W7.heap.size (.cells #[.string (S r.num), .string (S (r.den : Int)), .slice pk mk ck] 49) ∧ PAt X pk lk) ⟨BW, RWk, RWk, RWk, (by first | with_reducible exact pat_set2 hpk rbud NER | with_reducible exact pat_set2 hpk rgr NER | exact PAt.below hpk BW)⟩ ?_
        clear rbud
        clear sbud cbud0 cbud1 fbud0 fbud1
        clear rh
        clear sh ch0 ch1 ch2
        clear rk
        clear sk ck0 ck1 ck2
        clear hB sB hpk
        rintro V11 ⟨hB, rbud, rh, rk, hpk⟩
        obtain ⟨sbud, cbud0, cbud1, fbud0, fbud1⟩ := Fbud _ rbud
        obtain ⟨sh, ch0, ch1, ch2⟩ := Fh _ rh
        obtain ⟨sk, ck0, ck1, ck2⟩ := Fk _ rk
        refine (WO _ (he.env.below hB)).mono ?_
        rintro e W12 ⟨rfl, h1⟩
        clear sbud cbud0 cbud1 fbud0 fbud1
        clear sh ch0 ch1 ch2
        clear sk ck0 ck1 ck2
        replace hB := hB.trans (h1.mono hB.size)
        replace rbud := Row.below rbud h1
        replace rh := Row.below rh h1
        replace rk := Row.below rk h1
        replace hpk := PAt.below hpk h1
        clear h1
        obtain ⟨sbud, cbud0, cbud1, fbud0, fbud1⟩ := Fbud _ rbud
        obtain ⟨sh, ch0, ch1, ch2⟩ := Fh _ rh
        obtain ⟨sk, ck0, ck1, ck2⟩ := Fk _ rk
        go_wp2_with fail
        have dbud_wi : pbud < W12.heap.size := by omega
        have sB := hB.size
        refine world_cut (fun X => Below w.heap.size w X ∧ Row X pbud (.cells #[.string (S bd.num), .string (S (bd.den : Int))] 26) ∧ Row X W5.heap.size (.cells #[.string (S r.num), .string (S (r.den : Int)), .slice p m c] 49) ∧ Row X W7.heap.size (.cells #[.string (S r.num), .string (S (r.den : Int)), .slice pk mk ck] 49) ∧ Row X W12.heap.size (.cells #[.string (S wd.num), .string (S (wd.den : Int))] 26) ∧ PAt X pk lk) ⟨BW, RWk, RWk, RWk, RWk, (by first | with_reducible exact pat_set2 hpk rbud NER | with_reducible exact pat_set2 hpk rgr NER | exact PAt.below hpk BW)⟩ ?_
        clear rbud
        clear sbud cbud0 cbud1 fbud0 fbud1
        clear rh
        clear sh ch0 ch1 ch2
        clear rk
        clear sk ck0 ck1 ck2
        clear hB sB hpk
        rintro V13 ⟨hB, rbud, rh, rk, rwi, hpk⟩
        obtain ⟨sbud, cbud0, cbud1, fbud0, fbud1⟩ := Fbud _ rbud
        obtain ⟨sh, ch0, ch1, ch2⟩ := Fh _ rh
        obtain ⟨sk, ck0, ck1, ck2⟩ := Fk _ rk
        have Fwi : ∀ X, Row X W12.heap.size (.cells #[.string (S wd.num), .string (S (wd.den : Int))] 26) → (W12.heap.size < X.heap.size ∧ X.cell? ⟨W12.heap.size, 0, none⟩ = some (.string (S wd.num)) ∧ X.cell? ⟨W12.heap.size, 1, none⟩ = some (.string (S (wd.den : Int)))) := fun X h => ⟨h.1, Row.cell_at h 0 rfl, Row.cell_at h 1 rfl⟩
        obtain ⟨swi, cwi0, cwi1⟩ := Fwi _ rwi
        refine (MC _ (he.env.below hB)).mono ?_
        rintro e W14 ⟨rfl, h1⟩
        clear sbud cbud0 cbud1 fbud0 fbud1
        clear sh ch0 ch1 ch2
        clear sk ck0 ck1 ck2
        clear swi cwi0 cwi1
        replace hB := hB.trans (h1.mono hB.size)
        replace rbud := Row.below rbud h1
        replace rh := Row.below rh h1
        replace rk := Row.below rk h1
        replace rwi := Row.below rwi h1
        replace hpk := PAt.below hpk h1
        clear h1
        obtain ⟨sbud, cbud0, cbud1, fbud0, fbud1⟩ := Fbud _ rbud
        obtain ⟨sh, ch0, ch1, ch2⟩ := Fh _ rh
        obtain ⟨sk, ck0, ck1, ck2⟩ := Fk _ rk
        obtain ⟨swi, cwi0, cwi1⟩ := Fwi _ rwi
        go_wp2
        go_ret
        exact ⟨rfl, BW⟩
      · clear HU
        have hl1k : 0 < mk := by rw [← HLN.out]; exact hl1
        have DA := fun W p c (hp : PAt W p lk) (H : Env W) => dat_known UC.ok hfr ko hf3 p mk c HLN.out hl1k W hp H
        obtain ⟨wd, hwd⟩ : ∃ v, o.hi - o.lo = v := ⟨_, rfl⟩
        have doo := UC.iv hfr hf3 ko
        have WO := fun W (H : Env W) => ewidth_is doo.1 doo.2 hwd W H
        have dwd : QDig 31 wd := by rw [← hwd]; exact QDig.sub (j := 15) (k := 15) doo.1.2 doo.1.1
        unfold QOk I Q at WO
        have hne : lk ≠ [] := List.length_pos_iff.1 hl1
        obtain ⟨o2, k2⟩ := exists_knows ⟨r, lk⟩ nl hne
        have hn3 : nl ≤ 1000000 := hn1
        have DB := fun W p c (hp : PAt W p lk) (H : Env W) => dat_known UC.ok hfr k2 hn3 p mk c HLN.out hl1k W hp H
        have d2 := UC.iv hfr hn3 k2
        obtain ⟨D, hD⟩ : ∃ D, D = 2 * N := ⟨_, rfl⟩
        have h5 : wd + far r D ≤ bd := by rw [hD, ← hwd]; exact hle
        have e2 : o2.hi - o2.lo = wd + far r D := by rw [hD, ← hwd]; exact width_after (k := ⟨r, lk⟩) (f := f) (n := N) UC.le ko (by rw [← hnl]; exact k2)
        have WB := fun W (H : Env W) => ewidth_is d2.1 d2.2 e2 W H
        have dO : QDig 7 (Rat.divInt ((D : Nat) : Int) 1) := QDig.ofInt (by omega) (by unfold Dig; omega) (by unfold Dig; omega)
        have MD := fun W (H : Env W) => lof (n := ((D : Nat) : Int)) (d := 1) ⟨by omega, by omega⟩ (by decide) (by decide) W H
        have MM2 := fun W (H : Env W) => qmul (j := 2) (k := 7) UC.r2 dO (by omega) W H
        rw [far_divInt] at MM2
        have dF : QDig 9 (far r D) := by rw [← far_divInt]; exact QDig.mul (j := 2) (k := 7) UC.r2 dO
        have MA2 := fun W (H : Env W) => qadd (j := 31) (k := 9) dwd dF (by omega) W H
        have dV : QDig 41 (wd + far r D) := QDig.add (j := 31) (k := 9) dwd dF
        have MC := fun W (H : Env W) => qcompare (wd + far r D) bd (dV.mono (by omega)) (DBD.out.mono (by omega)) W H
        have hc : ¬ (0 < cmpQ (wd + far r D) bd) := by have := cmpQ_le.2 h5; omega
        have hs1 : IntKind.i64.wrap ((nl : Int) - (f : Int)) = (N : Int) := by rw [IntKind.wrap_i64]; omega
        have hs2 : IntKind.i64.wrap (2 * (N : Int)) = (D : Int) := by rw [IntKind.wrap_i64]; omega
        have hlf : (f : Int) ≤ (nl : Int) := by omega
        have hlm : (nl : Int) ≤ 1000000 := by omega
        have hgt2 : nl < 1000000 → bd < wd + far r (2 * (N + 1)) := by rw [← hwd]; exact hgt
        have K3 : ∀ o3, Knows ⟨r, lk⟩ (nl + 1) o3 → o3.hi - o3.lo = wd + far r (2 * (N + 1)) := fun o3 k3 => by rw [← hwd]; exact width_after (k := ⟨r, lk⟩) (f := f) (n := N + 1) UC.le ko (by rw [show f + (N + 1) = nl + 1 by omega]; exact k3)
        unfold QOk at WB MM2 MA2
        unfold I at WB
        unfold CmpOk at MC
        unfold Q at *
        clear hle hgt ko k2 doo d2 dO dF dV h5 hD hnl hwd e2
        generalize Rat.divInt ((D : Nat) : Int) 1 = fd at *
        generalize wd + far r D = vv at *
        generalize far r D = gg at *
        go_wp2_with fail
        refine (DA _ _ _ hpk (he.env.below hB)).mono ?_
        rintro e W10 ⟨rfl, h1⟩
        clear sbud cbud0 cbud1 fbud0 fbud1
        clear sh ch0 ch1 ch2
        clear sk ck0 ck1 ck2
        replace hB := hB.trans (h1.mono hB.size)
        replace rbud := Row.below rbud h1
        replace rh := Row.below rh h1
        replace rk := Row.below rk h1
        replace hpk := PAt.below hpk h1
        clear h1
        obtain ⟨sbud, cbud0, cbud1, fbud0, fbud1⟩ := Fbud _ rbud
        obtain ⟨sh, ch0, ch1, ch2⟩ := Fh _ rh
        obtain ⟨sk, ck0, ck1, ck2⟩ := Fk _ rk
        go_wp2_with fail
        have sB := hB.size
        refine world_cut (fun X => Below w.heap.size w X ∧ Row X pbud (.cells #[.string (S bd.num), .string (S (bd.den : Int))] 26) ∧ Row X W5.heap.size (.cells #[.string (S r.num), .string (S (r.den : Int)), .slice p m c] 49) ∧ Row X W7.heap.size (.cells #[.string (S r.num), .string (S (r.den : Int)), .slice pk mk ck] 49) ∧ PAt X pk lk) ⟨BW, RWk, RWk, RWk, (by first | with_reducible exact pat_set2 hpk rbud NER | with_reducible exact pat_set2 hpk rgr NER | exact PAt.below hpk BW)⟩ ?_
        clear rbud
        clear sbud cbud0 cbud1 fbud0 fbud1
        clear rh
        clear sh ch0 ch1 ch2
        clear rk
        clear sk ck0 ck1 ck2
        clear hB sB hpk
        rintro V11 ⟨hB, rbud, rh, rk, hpk⟩
        obtain ⟨sbud, cbud0, cbud1, fbud0, fbud1⟩ := Fbud _ rbud
        obtain ⟨sh, ch0, ch1, ch2⟩ := Fh _ rh
        obtain ⟨sk, ck0, ck1, ck2⟩ := Fk _ rk
        refine (WO _ (he.env.below hB)).mono ?_
        rintro e W12 ⟨rfl, h1⟩
        clear sbud cbud0 cbud1 fbud0 fbud1
        clear sh ch0 ch1 ch2
        clear sk ck0 ck1 ck2
        replace hB := hB.trans (h1.mono hB.size)
        replace rbud := Row.below rbud h1
        replace rh := Row.below rh h1
        replace rk := Row.below rk h1
        replace hpk := PAt.below hpk h1
        clear h1
        obtain ⟨sbud, cbud0, cbud1, fbud0, fbud1⟩ := Fbud _ rbud
        obtain ⟨sh, ch0, ch1, ch2⟩ := Fh _ rh
        obtain ⟨sk, ck0, ck1, ck2⟩ := Fk _ rk
        go_wp2_with fail
        have dbud_wi : pbud < W12.heap.size := by omega
        have sB := hB.size
        refine world_cut (fun X => Below w.heap.size w X ∧ Row X pbud (.cells #[.string (S bd.num), .string (S (bd.den : Int))] 26) ∧ Row X W5.heap.size (.cells #[.string (S r.num), .string (S (r.den : Int)), .slice p m c] 49) ∧ Row X W7.heap.size (.cells #[.string (S r.num), .string (S (r.den : Int)), .slice pk mk ck] 49) ∧ Row X W12.heap.size (.cells #[.string (S wd.num), .string (S (wd.den : Int))] 26) ∧ PAt X pk lk) ⟨BW, RWk, RWk, RWk, RWk, (by first | with_reducible exact pat_set2 hpk rbud NER | with_reducible exact pat_set2 hpk rgr NER | exact PAt.below hpk BW)⟩ ?_
        clear rbud
        clear sbud cbud0 cbud1 fbud0 fbud1
        clear rh
        clear sh ch0 ch1 ch2
        clear rk
        clear sk ck0 ck1 ck2
        clear hB sB hpk
        rintro V13 ⟨hB, rbud, rh, rk, rwi, hpk⟩
        obtain ⟨sbud, cbud0, cbud1, fbud0, fbud1⟩ := Fbud _ rbud
        obtain ⟨sh, ch0, ch1, ch2⟩ := Fh _ rh
        obtain ⟨sk, ck0, ck1, ck2⟩ := Fk _ rk
        have Fwi : ∀ X, Row X W12.heap.size (.cells #[.string (S wd.num), .string (S (wd.den : Int))] 26) → (W12.heap.size < X.heap.size ∧ X.cell? ⟨W12.heap.size, 0, none⟩ = some (.string (S wd.num)) ∧ X.cell? ⟨W12.heap.size, 1, none⟩ = some (.string (S (wd.den : Int)))) := fun X h => ⟨h.1, Row.cell_at h 0 rfl, Row.cell_at h 1 rfl⟩
        obtain ⟨swi, cwi0, cwi1⟩ := Fwi _ rwi
        refine (DB _ _ _ hpk (he.env.below hB)).mono ?_
        rintro e W14 ⟨rfl, h1⟩
        clear sbud cbud0 cbud1 fbud0 fbud1
        clear sh ch0 ch1 ch2
        clear sk ck0 ck1 ck2
        clear swi cwi0 cwi1
        replace hB := hB.trans (h1.mono hB.size)
        replace rbud := Row.below rbud h1
        replace rh := Row.below rh h1
        replace rk := Row.below rk h1
        replace rwi := Row.below rwi h1
        replace hpk := PAt.below hpk h1
        clear h1
        obtain ⟨sbud, cbud0, cbud1, fbud0, fbud1⟩ := Fbud _ rbud
        obtain ⟨sh, ch0, ch1, ch2⟩ := Fh _ rh
        obtain ⟨sk, ck0, ck1, ck2⟩ := Fk _ rk
        obtain ⟨swi, cwi0, cwi1⟩ := Fwi _ rwi
        go_wp2_with fail
        have sB := hB.size
        refine world_cut (fun X => Below w.heap.size w X ∧ Row X pbud (.cells #[.string (S bd.num), .string (S (bd.den : Int))] 26) ∧ Row X W5.heap.size (.cells #[.string (S r.num), .string (S (r.den : Int)), .slice p m c] 49) ∧ Row X W7.heap.size (.cells #[.string (S r.num), .string (S (r.den : Int)), .slice pk mk ck] 49) ∧ Row X W12.heap.size (.cells #[.string (S wd.num), .string (S (wd.den : Int))] 26) ∧ PAt X pk lk) ⟨BW, RWk, RWk, RWk, RWk, (by first | with_reducible exact pat_set2 hpk rbud NER | with_reducible exact pat_set2 hpk rgr NER | exact PAt.below hpk BW)⟩ ?_
        clear rbud
        clear sbud cbud0 cbud1 fbud0 fbud1
        clear rh
        clear sh ch0 ch1 ch2
        clear rk
        clear sk ck0 ck1 ck2
        clear rwi
        clear swi cwi0 cwi1
        clear hB sB hpk
        rintro V15 ⟨hB, rbud, rh, rk, rwi, hpk⟩
        obtain ⟨sbud, cbud0, cbud1, fbud0, fbud1⟩ := Fbud _ rbud
        obtain ⟨sh, ch0, ch1, ch2⟩ := Fh _ rh
        obtain ⟨sk, ck0, ck1, ck2⟩ := Fk _ rk
        obtain ⟨swi, cwi0, cwi1⟩ := Fwi _ rwi
        refine (WB _ (he.env.below hB)).mono ?_
        rintro e W16 ⟨rfl, h1⟩
        clear sbud cbud0 cbud1 fbud0 fbud1
        clear sh ch0 ch1 ch2
        clear sk ck0 ck1 ck2
        clear swi cwi0 cwi1
        replace hB := hB.trans (h1.mono hB.size)
        replace rbud := Row.below rbud h1
        replace rh := Row.below rh h1
        replace rk := Row.below rk h1
        replace rwi := Row.below rwi h1
        replace hpk := PAt.below hpk h1
        clear h1
        obtain ⟨sbud, cbud0, cbud1, fbud0, fbud1⟩ := Fbud _ rbud
        obtain ⟨sh, ch0, ch1, ch2⟩ := Fh _ rh
        obtain ⟨sk, ck0, ck1, ck2⟩ := Fk _ rk
        obtain ⟨swi, cwi0, cwi1⟩ := Fwi _ rwi
        go_wp2_with fail
        have dbud_v : pbud < W16.heap.size := by omega
        have sB := hB.size
        refine wp_cut (fun X => Below w.heap.size w X ∧ Row X pbud (.cells #[.string (S bd.num), .string (S (bd.den : Int))] 26) ∧ Row X W5.heap.size (.cells #[.string (S r.num), .string (S (r.den : Int)), .slice p m c] 49) ∧ Row X W7.heap.size (.cells #[.string (S r.num), .string (S (r.den : Int)), .slice pk mk ck] 49) ∧ Row X W12.heap.size (.cells #[.string (S wd.num), .string (S (wd.den : Int))] 26) ∧ Row X W16.heap.size (.cells #[.string (S vv.num), .string (S (vv.den : Int))] 26) ∧ PAt X pk lk) ⟨BW, RWk, RWk, RWk, RWk, RWk, (by first | with_reducible exact pat_set2 hpk rbud NER | with_reducible exact pat_set2 hpk rgr NER | exact PAt.below hpk BW)⟩ ?_
        clear rbud
        clear sbud cbud0 cbud1 fbud0 fbud1
        clear rh
        clear sh ch0 ch1 ch2
        clear rk
        clear sk ck0 ck1 ck2
        clear rwi
        clear swi cwi0 cwi1
        clear hB sB hpk
        rintro V17 ⟨hB, rbud, rh, rk, rwi, rv, hpk⟩
        obtain ⟨sbud, cbud0, cbud1, fbud0, fbud1⟩ := Fbud _ rbud
        obtain ⟨sh, ch0, ch1, ch2⟩ := Fh _ rh
        obtain ⟨sk, ck0, ck1, ck2⟩ := Fk _ rk
        obtain ⟨swi, cwi0, cwi1⟩ := Fwi _ rwi
        have Fv : ∀ X, Row X W16.heap.size (.cells #[.string (S vv.num), .string (S (vv.den : Int))] 26) → (W16.heap.size < X.heap.size ∧ X.cell? ⟨W16.heap.size, 0, none⟩ = some (.string (S vv.num)) ∧ X.cell? ⟨W16.heap.size, 1, none⟩ = some (.string (S (vv.den : Int)))) := fun X h => ⟨h.1, Row.cell_at h 0 rfl, Row.cell_at h 1 rfl⟩
        obtain ⟨sv, cv0, cv1⟩ := Fv _ rv
        have dbud_gr := rbud.1
        have dh_gr := rh.1
        have dk_gr := rk.1
        have dwi_gr := rwi.1
        have dv_gr := rv.1
        have d0_gr := hB.size
        refine wp_region_late 12 [10] [.val (.pointer (some ⟨W5.heap.size, 0, none⟩)), .val (.agg #[.string (S r.num), .string (S (r.den : Int))]), .val (.int .i64 (nl : Int)), .val (.int .i64 (f : Int)), .val (.int .i64 (N : Int)), .val (.int .i64 (D : Int)), .val (.agg #[.string (S fd.num), .string (S (fd.den : Int))]), .val (.tuple #[.agg #[.string (S gg.num), .string (S (gg.den : Int))], .int .i64 0]), .val (.tuple #[.agg #[.string (S gg.num), .string (S (gg.den : Int))], .int .i64 0]), .val (.agg #[.string (S gg.num), .string (S (gg.den : Int))]), .val (.int .i64 0), .say (fresh _ (.cells #[.string ⟨#[]⟩, .string ⟨#[]⟩] 26))] [24] (by kernel_rfl) (by kernel_rfl) (by kernel_rfl) rfl ⟨fresh_mono _ _, trivial⟩ (allItems.cons qi0 (allItems.cons (qi1 fun X h => Fh X (Row.below rh h)) (allItems.cons qi0 (allItems.cons qi0 (allItems.cons (qif hs1) (allItems.cons (qif hs2) (allItems.cons (qi2 fun X h => MD X (he.env.below (hB.trans (h.mono hB.size)))) (allItems.cons (qi2 fun X h => MM2 X (he.env.below (hB.trans (h.mono hB.size)))) (allItems.cons qi0 (allItems.cons qi0 (allItems.cons qi0 (allItems.cons qia trivial)))))))))))) ?_
        rintro W h1
        clear sbud cbud0 cbud1 fbud0 fbud1
        clear sh ch0 ch1 ch2
        clear sk ck0 ck1 ck2
        clear swi cwi0 cwi1
        clear sv cv0 cv1
        replace hB := hB.trans (h1.mono hB.size)
        replace rbud := Row.below rbud h1
        replace rh := Row.below rh h1
        replace rk := Row.below rk h1
        replace rwi := Row.below rwi h1
        replace rv := Row.below rv h1
        replace hpk := PAt.below hpk h1
        clear h1
        obtain ⟨sbud, cbud0, cbud1, fbud0, fbud1⟩ := Fbud _ rbud
        obtain ⟨sh, ch0, ch1, ch2⟩ := Fh _ rh
        obtain ⟨sk, ck0, ck1, ck2⟩ := Fk _ rk
        obtain ⟨swi, cwi0, cwi1⟩ := Fwi _ rwi
        obtain ⟨sv, cv0, cv1⟩ := Fv _ rv
        simp only [setItems, List.setIfInBounds_toArray, List.set_cons_succ, List.set_cons_zero, List.take_succ_cons, List.take_zero, List.drop_succ_cons, List.drop_zero]
        rintro _ ⟨pgr, rfl, hgr, rgr⟩
        replace dbud_gr := Nat.lt_of_lt_of_le dbud_gr hgr
        replace dh_gr := Nat.lt_of_lt_of_le dh_gr hgr
        replace dk_gr := Nat.lt_of_lt_of_le dk_gr hgr
        replace dwi_gr := Nat.lt_of_lt_of_le dwi_gr hgr
        replace dv_gr := Nat.lt_of_lt_of_le dv_gr hgr
        replace d0_gr := Nat.le_trans d0_gr hgr
        have Fgr : ∀ X, Row X pgr (.cells #[.string ⟨#[]⟩, .string ⟨#[]⟩] 26) → (pgr < X.heap.size ∧ X.cell? ⟨pgr, 0, none⟩ = some (.string ⟨#[]⟩) ∧ X.cell? ⟨pgr, 1, none⟩ = some (.string ⟨#[]⟩) ∧ X.frozen? ⟨pgr, 0, none⟩ = false ∧ X.frozen? ⟨pgr, 1, none⟩ = false) := fun X h => ⟨h.1, Row.cell_at h 0 rfl, Row.cell_at h 1 rfl, frozen_of_row _ _ 0 _ _ h.2, frozen_of_row _ _ 1 _ _ h.2⟩
        obtain ⟨sgr, cgr0, cgr1, fgr0, fgr1⟩ := Fgr _ rgr
        intro _
        go_wp2_with fail
        unfold normalQ
        go_wp2_with fail
        clear Fh
        clear Fwi
        clear Fgr
        have sB := hB.size
        refine world_cut (fun X => Below w.heap.size w X ∧ Row X pbud (.cells #[.string (S bd.num), .string (S (bd.den : Int))] 26) ∧ Row X W7.heap.size (.cells #[.string (S r.num), .string (S (r.den : Int)), .slice pk mk ck] 49) ∧ Row X W16.heap.size (.cells #[.string (S vv.num), .string (S (vv.den : Int))] 26) ∧ PAt X pk lk) ⟨BW, RWk, RWk, RWk, (by first | with_reducible exact pat_set2 hpk rbud NER | with_reducible exact pat_set2 hpk rgr NER | exact PAt.below hpk BW)⟩ ?_
        clear rbud
        clear sbud cbud0 cbud1 fbud0 fbud1
        clear rh
        clear sh ch0 ch1 ch2
        clear rk
        clear sk ck0 ck1 ck2
        clear rwi
        clear swi cwi0 cwi1
        clear rv
        clear sv cv0 cv1
        clear rgr
        clear sgr cgr0 cgr1 fgr0 fgr1
        clear hB sB hpk
        rintro V18 ⟨hB, rbud, rk, rv, hpk⟩
        obtain ⟨sbud, cbud0, cbud1, fbud0, fbud1⟩ := Fbud _ rbud
        obtain ⟨sk, ck0, ck1, ck2⟩ := Fk _ rk
        obtain ⟨sv, cv0, cv1⟩ := Fv _ rv
        refine (MA2 _ (he.env.below hB)).mono ?_
        rintro e W19 ⟨rfl, h1⟩
        clear sbud cbud0 cbud1 fbud0 fbud1
        clear sk ck0 ck1 ck2
        clear sv cv0 cv1
        replace hB := hB.trans (h1.mono hB.size)
        replace rbud := Row.below rbud h1
        replace rk := Row.below rk h1
        replace rv := Row.below rv h1
        replace hpk := PAt.below hpk h1
        clear h1
        obtain ⟨sbud, cbud0, cbud1, fbud0, fbud1⟩ := Fbud _ rbud
        obtain ⟨sk, ck0, ck1, ck2⟩ := Fk _ rk
        obtain ⟨sv, cv0, cv1⟩ := Fv _ rv
        go_wp2_with fail
        have dbud_su : pbud < W19.heap.size := by omega
        have sB := hB.size
        refine world_cut (fun X => Below w.heap.size w X ∧ Row X pbud (.cells #[.string (S bd.num), .string (S (bd.den : Int))] 26) ∧ Row X W7.heap.size (.cells #[.string (S r.num), .string (S (r.den : Int)), .slice pk mk ck] 49) ∧ Row X W16.heap.size (.cells #[.string (S vv.num), .string (S (vv.den : Int))] 26) ∧ Row X W19.heap.size (.cells #[.string (S vv.num), .string (S (vv.den : Int))] 26) ∧ PAt X pk lk) ⟨BW, RWk, RWk, RWk, RWk, (by first | with_reducible exact pat_set2 hpk rbud NER | with_reducible exact pat_set2 hpk rgr NER | exact PAt.below hpk BW)⟩ ?_
        clear rbud
        clear sbud cbud0 cbud1 fbud0 fbud1
        clear rk
        clear sk ck0 ck1 ck2
        clear rv
        clear sv cv0 cv1
        clear hB sB hpk
        rintro V20 ⟨hB, rbud, rk, rv, rsu, hpk⟩
        obtain ⟨sbud, cbud0, cbud1, fbud0, fbud1⟩ := Fbud _ rbud
        obtain ⟨sk, ck0, ck1, ck2⟩ := Fk _ rk
        obtain ⟨sv, cv0, cv1⟩ := Fv _ rv
        have Fsu : ∀ X, Row X W19.heap.size (.cells #[.string (S vv.num), .string (S (vv.den : Int))] 26) → (W19.heap.size < X.heap.size ∧ X.cell? ⟨W19.heap.size, 0, none⟩ = some (.string (S vv.num)) ∧ X.cell? ⟨W19.heap.size, 1, none⟩ = some (.string (S (vv.den : Int)))) := fun X h => ⟨h.1, Row.cell_at h 0 rfl, Row.cell_at h 1 rfl⟩
        obtain ⟨ssu, csu0, csu1⟩ := Fsu _ rsu
        refine (MC _ (he.env.below hB)).mono ?_
        rintro e W21 ⟨rfl, h1⟩
        clear sbud cbud0 cbud1 fbud0 fbud1
        clear sk ck0 ck1 ck2
        clear sv cv0 cv1
        clear ssu csu0 csu1
        replace hB := hB.trans (h1.mono hB.size)
        replace rbud := Row.below rbud h1
        replace rk := Row.below rk h1
        replace rv := Row.below rv h1
        replace rsu := Row.below rsu h1
        replace hpk := PAt.below hpk h1
        clear h1
        obtain ⟨sbud, cbud0, cbud1, fbud0, fbud1⟩ := Fbud _ rbud
        obtain ⟨sk, ck0, ck1, ck2⟩ := Fk _ rk
        obtain ⟨sv, cv0, cv1⟩ := Fv _ rv
        obtain ⟨ssu, csu0, csu1⟩ := Fsu _ rsu
        go_upto_region 28 with fail
        clear rv
        clear sv cv0 cv1
        clear Fv
        clear rsu
        clear ssu csu0 csu1
        clear Fsu
        clear DA WO DB WB MD MM2 MA2 MC hc hs1 hs2
        by_cases hmax : nl = 1000000
        · have hm2 : (nl : Int) = 1000000 := by omega
          have HMX := Lib.hid hm2
          clear hmax hm2
          go_upto_region 28 with fail
          refine wp_region_vals_seq [.int .i64 (nl : Int), .bool true] (by kernel_rfl) rfl (allVals.cons qv0 (allVals.cons (qvf HMX.out) trivial)) ?_
          rintro W h1
          clear sbud cbud0 cbud1 fbud0 fbud1
          clear sk ck0 ck1 ck2
          replace hB := hB.trans (h1.mono hB.size)
          replace rbud := Row.below rbud h1
          replace rk := Row.below rk h1
          replace hpk := PAt.below hpk h1
          clear h1
          obtain ⟨sbud, cbud0, cbud1, fbud0, fbud1⟩ := Fbud _ rbud
          obtain ⟨sk, ck0, ck1, ck2⟩ := Fk _ rk
          simp only [setVals, List.setIfInBounds_toArray, List.set_cons_succ, List.set_cons_zero]
          go_wp2
          go_ret
          exact ⟨rfl, BW⟩
        · have hm2 : ¬ ((nl : Int) = 1000000) := by omega
          have hlt : nl < 1000000 := by omega
          have h6 := hgt2 hlt
          obtain ⟨o3, k3⟩ := exists_knows ⟨r, lk⟩ (nl + 1) hne
          have e3 := K3 o3 k3
          rw [← e3] at h6
          have hn4 : nl + 1 ≤ 1000000 := hlt
          have DC := fun W p c (hp : PAt W p lk) (H : Env W) => dat_known UC.ok hfr k3 hn4 p mk c HLN.out hl1k W hp H
          have d3 := UC.iv hfr hn4 k3
          have WC := fun W (H : Env W) => ewidth_is d3.1 d3.2 rfl W H
          have d4 : QDig 31 (o3.hi - o3.lo) := QDig.sub (j := 15) (k := 15) d3.1.2 d3.1.1
          have MC3 := fun W (H : Env W) => qcompare (o3.hi - o3.lo) bd (d4.mono (by omega)) (DBD.out.mono (by omega)) W H
          have hc3 : 0 < cmpQ (o3.hi - o3.lo) bd := cmpQ_gt.2 h6
          rw [show (((nl + 1 : Nat)) : Int) = (nl : Int) + 1 from by omega] at DC
          unfold QOk I Q at WC
          unfold CmpOk Q at MC3
          clear K3 e3 h6 k3 d3 d4 hmax hgt2
          have HM2 := Lib.hid hm2
          clear hm2 hne
          generalize o3.hi - o3.lo = uu at *
          go_upto_region 28 with fail
          refine wp_region_vals_seq [.int .i64 (nl : Int), .bool false] (by kernel_rfl) rfl (allVals.cons qv0 (allVals.cons (qvf HM2.out) trivial)) ?_
          rintro W h1
          clear sbud cbud0 cbud1 fbud0 fbud1
          clear sk ck0 ck1 ck2
          replace hB := hB.trans (h1.mono hB.size)
          replace rbud := Row.below rbud h1
          replace rk := Row.below rk h1
          replace hpk := PAt.below hpk h1
          clear h1
          obtain ⟨sbud, cbud0, cbud1, fbud0, fbud1⟩ := Fbud _ rbud
          obtain ⟨sk, ck0, ck1, ck2⟩ := Fk _ rk
          simp only [setVals, List.setIfInBounds_toArray, List.set_cons_succ, List.set_cons_zero]
          go_wp2_with fail
          clear rk
          clear sk ck0 ck1 ck2
          clear Fk
          refine (DC _ _ _ hpk (he.env.below hB)).mono ?_
          rintro e W22 ⟨rfl, h1⟩
          clear sbud cbud0 cbud1 fbud0 fbud1
          replace hB := hB.trans (h1.mono hB.size)
          replace rbud := Row.below rbud h1
          replace hpk := PAt.below hpk h1
          clear h1
          obtain ⟨sbud, cbud0, cbud1, fbud0, fbud1⟩ := Fbud _ rbud
          go_wp2_with fail
          have sB := hB.size
          refine world_cut (fun X => Below w.heap.size w X ∧ Row X pbud (.cells #[.string (S bd.num), .string (S (bd.den : Int))] 26) ∧ PAt X pk lk) ⟨BW, RWk, (by first | with_reducible exact pat_set2 hpk rbud NER | with_reducible exact pat_set2 hpk rgr NER | exact PAt.below hpk BW)⟩ ?_
          clear rbud
          clear sbud cbud0 cbud1 fbud0 fbud1
          clear hB sB hpk
          rintro V23 ⟨hB, rbud, hpk⟩
          obtain ⟨sbud, cbud0, cbud1, fbud0, fbud1⟩ := Fbud _ rbud
          refine (WC _ (he.env.below hB)).mono ?_
          rintro e W24 ⟨rfl, h1⟩
          clear sbud cbud0 cbud1 fbud0 fbud1
          replace hB := hB.trans (h1.mono hB.size)
          replace rbud := Row.below rbud h1
          replace hpk := PAt.below hpk h1
          clear h1
          obtain ⟨sbud, cbud0, cbud1, fbud0, fbud1⟩ := Fbud _ rbud
          go_wp2_with fail
          clear Fbud
          have sB := hB.size
          refine world_cut (fun X => Below w.heap.size w X ∧ PAt X pk lk) ⟨BW, (by first | with_reducible exact pat_set2 hpk rbud NER | with_reducible exact pat_set2 hpk rgr NER | exact PAt.below hpk BW)⟩ ?_
          clear rbud
          clear sbud cbud0 cbud1 fbud0 fbud1
          clear hB sB hpk
          rintro V25 ⟨hB, hpk⟩
          refine (MC3 _ (he.env.below hB)).mono ?_
          rintro e W26 ⟨rfl, h1⟩
          replace hB := hB.trans (h1.mono hB.size)
          replace hpk := PAt.below hpk h1
          clear h1
          go_wp2
          go_ret
          exact ⟨rfl, BW⟩
end Go.Proofs.YtngohpgkceedeaaGreatDoor
