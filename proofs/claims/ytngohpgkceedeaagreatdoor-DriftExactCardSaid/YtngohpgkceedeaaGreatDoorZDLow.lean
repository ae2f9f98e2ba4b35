/-
  What the laws of drift share: contracts in the form in which the walks take them. The drift laws' low and between.
-/
import Derived.Test.YtngohpgkceedeaaGreatDoorZDPlain3
import Derived.Test.YtngohpgkceedeaaGreatDoorZSane12
set_option linter.unusedSimpArgs false
set_option linter.unusedVariables false
namespace Go.Proofs.YtngohpgkceedeaaGreatDoor
open Go Go.RowKit Go.Lib Go.Shelf

theorem dcons_say {r : Rat} {l : List Pt} {n : Nat} (hn : (cons ⟨r, l⟩).length = n) (ho : Hist.Ok ⟨r, l⟩) (p : Option Addr) (m c : Nat) (hm : l.length = m) (w : World) (hp : PAt w p l) (he : Env w) :
    Calls Tryz.prog 40 #[.agg #[.string (S r.num), .string (S (r.den : Int)), .slice p m c]] w (fun e w' => ∃ v, e = .returned v ∧ SaySl n v w' ∧ Below w.heap.size w w') := by
  subst hn
  exact (dcons ho p m c hm w hp he).mono fun e w' ⟨v, hown, h1, h2⟩ => ⟨v, h1, by
    rcases hown.2 with ⟨h, h0⟩ | ⟨g, cap, cur, h, _⟩
    · exact ⟨none, 0, by rw [h0]; exact h⟩
    · exact ⟨_, cap, h⟩, h2⟩
theorem pat_set2 {W : World} {p : Option Addr} {l : List Pt} {b : Nat} {vs : Array Value} {T : TypeId} {u0 u1 : Value} (h : PAt W p l) (r : Row W b (.cells vs T)) (hne : T ≠ 53) : PAt ((W.setCell ⟨b, 0, none⟩ u0).setCell ⟨b, 1, none⟩ u1) p l :=
  pat_set (pat_set h r hne _ _) (r.set_same rfl) hne _ _
theorem dat_off {r : Rat} {l : List Pt} (ho : Hist.Ok ⟨r, l⟩) {t : Nat} (ht : t ≤ 1000000) (p : Option Addr) (m c : Nat) (hm : l.length = m) (hx : ¬ (0 < m ∧ Free ⟨r, l⟩)) (w : World) (hp : PAt w p l) (he : Env w) :
    Calls Tryz.prog 31 #[.agg #[.string (S r.num), .string (S (r.den : Int)), .slice p m c], .int .i64 (t : Int)] w (AtErr w) := by
  rcases Nat.eq_zero_or_pos m with rfl | h
  · obtain rfl := List.length_eq_zero_iff.1 hm
    exact dat_empty ho _ p c w hp he
  · exact dat_bad ho (fun hf => hx ⟨h, hf⟩) ht p m c hm h w hp he
theorem dcons_n {r : Rat} {l : List Pt} (ho : Hist.Ok ⟨r, l⟩) (p : Option Addr) (m c : Nat) (hm : l.length = m) (w : World) (hp : PAt w p l) (he : Env w) :
    Calls Tryz.prog 40 #[.agg #[.string (S r.num), .string (S (r.den : Int)), .slice p m c]] w (fun e w' => ∃ p n c, (n = 0 ↔ Free ⟨r, l⟩) ∧ e = .returned (.slice p n c) ∧ Below w.heap.size w w') :=
  (dcons_say rfl ho p m c hm w hp he).mono fun e w' ⟨v, h1, ⟨p, c, h⟩, h2⟩ => ⟨p, _, c, by rw [List.length_eq_zero_iff, cons_nil ho], by rw [h1, h], h2⟩
/-- A history that integers determine, with its length named. -/
theorem made_n {a b : Int} (ha : IsInt a) (hb : IsInt b) {f : Nat → Nat → Int} {px : Option Addr} {n cx : Nat} (hf : ∀ i j, i < n → j < 4 → IsInt (f i j)) (hn : n ≤ 9223372036854775807) {r : Rat} {l : List Pt} {m : Nat} (hr : madeRate a b = r) (hl : madeL f (min n 8) = l) (hm : l.length = m) (w : World) (hx : X4 w px n f) :
    Calls Tryz.prog 27 #[.agg #[.int .i64 a, .int .i64 b], .slice px n cx] w (fun e w' => ∃ p c, (PAt w' p l ∧ m ≤ c) ∧ e = .returned (.agg #[.string (S r.num), .string (S (r.den : Int)), .slice p m c]) ∧ Below w.heap.size w w') := by
  subst hr hl hm
  exact (r12made ha hb f px n cx hf hn w hx).mono fun e w' ⟨p, c, h1, h2, _, h3, h4⟩ => ⟨p, c, ⟨h1, h2⟩, h3, h4⟩
theorem known_dig {r : Rat} {l : List Pt} {t : Nat} {o : Iv} (hr : QDig 5 r) (hi : ∀ p, p ∈ l → IDig 2 p.iv) (ht : t ≤ 1000000) (htm : ∀ p, p ∈ l → p.t ≤ 1000000) (hk : Knows ⟨r, l⟩ t o) : IDig 15 o :=
  Knows.dig (j := 2) (k := 5) hk hr hi ht htm
end Go.Proofs.YtngohpgkceedeaaGreatDoor
namespace Go.Proofs.YtngohpgkceedeaaGreatDoor
open Go Go.RowKit Go.Lib Go.Shelf
attribute [local go_sem] normalQ

set_option maxRecDepth 100000 in
set_option maxHeartbeats 16000000 in
theorem dlow {j k : Nat} {r v : Rat} (hr : QDig j r) (hv : QDig k v) (hjk : k + (j + 7) + 1 ≤ 200) {a t : Nat} (ha : a ≤ 1000000) (ht : t ≤ 1000000) (w : World) (he : Env w) : Calls Tryz.prog 47 #[Q r, .int .i64 (a : Int), Q v, .int .i64 (t : Int)] w (QOk (v - far r (dist a t)) w) := by
  have hB : Below w.heap.size w w := Below.refl _ _
  have dO : QDig 7 (Rat.divInt ((dist t a : Nat) : Int) 1) := QDig.ofInt (by omega) (by unfold Dig dist; omega) (by unfold Dig; omega)
  have hd0 : dist t a ≤ 2000000 := by unfold dist; omega
  have MO := fun W (H : Env W) => lof (n := ((dist t a : Nat) : Int)) (d := 1) ⟨by omega, by omega⟩ (by decide) (by decide) W H
  have MM := fun W (H : Env W) => qmul (j := j) (k := 7) hr dO (by omega) W H
  have dF := QDig.mul (j := j) (k := 7) hr dO
  rw [far_divInt] at MM dF
  have MU := fun W (H : Env W) => qsub (j := k) (k := j + 7) hv dF (by omega) W H
  have hmx := dist_max t a
  have hs1 : IntKind.i64.wrap ((t : Int) - (a : Int)) = (t : Int) - (a : Int) := by rw [IntKind.wrap_i64]; omega
  have hs2 : IntKind.i64.wrap ((a : Int) - (t : Int)) = (a : Int) - (t : Int) := by rw [IntKind.wrap_i64]; omega
  rw [dist_comm a t]
  unfold QOk at *
  unfold Q at *
  generalize Rat.divInt ((dist t a : Nat) : Int) 1 = fd at *
  generalize far r (dist t a) = g at *
  generalize ((dist t a : Nat) : Int) = dd at *
  generalize v - g = x at *
  clear dO hd0 dF hr hv
  go_enter Tryz.func47, Tryz.ntmps47
  go_wp2_with fail
  have d0_o : w.heap.size ≤ w.heap.size + 1 + 1 := by have := hB.size; omega
  have sB := hB.size
  refine wp_cut (fun X => Below w.heap.size w X ∧ Row X w.heap.size (.cells #[.string (S r.num), .string (S (r.den : Int))] 26) ∧ Row X (w.heap.size + 1) (.cells #[.string (S v.num), .string (S (v.den : Int))] 26) ∧ Row X (w.heap.size + 1 + 1) (.cells #[.string ⟨#[]⟩, .string ⟨#[]⟩] 26)) ⟨BW, RWk, RWk, RWk⟩ ?_
  clear hB sB
  rintro V1 ⟨hB, rrt, rbv, ro⟩
  have Frt : ∀ X, Row X w.heap.size (.cells #[.string (S r.num), .string (S (r.den : Int))] 26) → (w.heap.size < X.heap.size ∧ X.cell? ⟨w.heap.size, 0, none⟩ = some (.string (S r.num)) ∧ X.cell? ⟨w.heap.size, 1, none⟩ = some (.string (S (r.den : Int)))) := fun X h => ⟨h.1, Row.cell_at h 0 rfl, Row.cell_at h 1 rfl⟩
  obtain ⟨srt, crt0, crt1⟩ := Frt _ rrt
  have Fbv : ∀ X, Row X (w.heap.size + 1) (.cells #[.string (S v.num), .string (S (v.den : Int))] 26) → (w.heap.size + 1 < X.heap.size ∧ X.cell? ⟨w.heap.size + 1, 0, none⟩ = some (.string (S v.num)) ∧ X.cell? ⟨w.heap.size + 1, 1, none⟩ = some (.string (S (v.den : Int)))) := fun X h => ⟨h.1, Row.cell_at h 0 rfl, Row.cell_at h 1 rfl⟩
  obtain ⟨sbv, cbv0, cbv1⟩ := Fbv _ rbv
  have Fo : ∀ X, Row X (w.heap.size + 1 + 1) (.cells #[.string ⟨#[]⟩, .string ⟨#[]⟩] 26) → (w.heap.size + 1 + 1 < X.heap.size ∧ X.cell? ⟨w.heap.size + 1 + 1, 0, none⟩ = some (.string ⟨#[]⟩) ∧ X.cell? ⟨w.heap.size + 1 + 1, 1, none⟩ = some (.string ⟨#[]⟩) ∧ X.frozen? ⟨w.heap.size + 1 + 1, 0, none⟩ = false ∧ X.frozen? ⟨w.heap.size + 1 + 1, 1, none⟩ = false) := fun X h => ⟨h.1, Row.cell_at h 0 rfl, Row.cell_at h 1 rfl, frozen_of_row _ _ 0 _ _ h.2, frozen_of_row _ _ 1 _ _ h.2⟩
  obtain ⟨so, co0, co1, fo0, fo1⟩ := Fo _ ro
  have drt_d := rrt.1
  have dbv_d := rbv.1
  have do_d := ro.1
  have d0_d := hB.size
  refine wp_region_late 14 [12] [.val (.agg #[.string (S r.num), .string (S (r.den : Int))]), .val (.int .i64 (t : Int)), .val (.int .i64 (a : Int)), .val (.int .i64 ((t : Int) - (a : Int))), .val (.int .i64 (a : Int)), .val (.int .i64 (t : Int)), .val (.int .i64 ((a : Int) - (t : Int))), .val (.int .i64 dd), .val (.agg #[.string (S fd.num), .string (S (fd.den : Int))]), .val (.tuple #[.agg #[.string (S g.num), .string (S (g.den : Int))], .int .i64 0]), .val (.tuple #[.agg #[.string (S g.num), .string (S (g.den : Int))], .int .i64 0]), .val (.agg #[.string (S g.num), .string (S (g.den : Int))]), .val (.int .i64 0), .say (fresh _ (.cells #[.string ⟨#[]⟩, .string ⟨#[]⟩] 26))] [10] (by kernel_rfl) (by kernel_rfl) (by kernel_rfl) rfl ⟨fresh_mono _ _, trivial⟩ (allItems.cons (qi1 fun X h => Frt X (Row.below rrt h)) (allItems.cons qi0 (allItems.cons qi0 (allItems.cons (qif hs1) (allItems.cons qi0 (allItems.cons qi0 (allItems.cons (qif hs2) (allItems.cons (qif hmx) (allItems.cons (qi2 fun X h => MO X (he.below (hB.trans (h.mono hB.size)))) (allItems.cons (qi2 fun X h => MM X (he.below (hB.trans (h.mono hB.size)))) (allItems.cons qi0 (allItems.cons qi0 (allItems.cons qi0 (allItems.cons qia trivial)))))))))))))) ?_
  rintro W h1
  clear srt crt0 crt1
  clear sbv cbv0 cbv1
  clear so co0 co1 fo0 fo1
  replace hB := hB.trans (h1.mono hB.size)
  replace rrt := Row.below rrt h1
  replace rbv := Row.below rbv h1
  replace ro := Row.below ro h1
  clear h1
  obtain ⟨srt, crt0, crt1⟩ := Frt _ rrt
  obtain ⟨sbv, cbv0, cbv1⟩ := Fbv _ rbv
  obtain ⟨so, co0, co1, fo0, fo1⟩ := Fo _ ro
  simp only [setItems, List.setIfInBounds_toArray, List.set_cons_succ, List.set_cons_zero, List.take_succ_cons, List.take_zero, List.drop_succ_cons, List.drop_zero]
  rintro _ ⟨pd, rfl, hd, rd⟩
  replace drt_d := Nat.lt_of_lt_of_le drt_d hd
  replace dbv_d := Nat.lt_of_lt_of_le dbv_d hd
  replace do_d := Nat.lt_of_lt_of_le do_d hd
  replace d0_d := Nat.le_trans d0_d hd
  have Fd : ∀ X, Row X pd (.cells #[.string ⟨#[]⟩, .string ⟨#[]⟩] 26) → (pd < X.heap.size ∧ X.cell? ⟨pd, 0, none⟩ = some (.string ⟨#[]⟩) ∧ X.cell? ⟨pd, 1, none⟩ = some (.string ⟨#[]⟩) ∧ X.frozen? ⟨pd, 0, none⟩ = false ∧ X.frozen? ⟨pd, 1, none⟩ = false) := fun X h => ⟨h.1, Row.cell_at h 0 rfl, Row.cell_at h 1 rfl, frozen_of_row _ _ 0 _ _ h.2, frozen_of_row _ _ 1 _ _ h.2⟩
  obtain ⟨sd, cd0, cd1, fd0, fd1⟩ := Fd _ rd
  intro _
  go_wp2_with fail
  unfold normalQ
  go_wp2_with fail
  clear Frt
  clear Fbv
  clear Fd
  have sB := hB.size
  refine world_cut (fun X => Below w.heap.size w X ∧ Row X (w.heap.size + 1 + 1) (.cells #[.string ⟨#[]⟩, .string ⟨#[]⟩] 26)) ⟨BW, RWk⟩ ?_
  clear rrt
  clear srt crt0 crt1
  clear rbv
  clear sbv cbv0 cbv1
  clear ro
  clear so co0 co1 fo0 fo1
  clear rd
  clear sd cd0 cd1 fd0 fd1
  clear hB sB
  rintro V2 ⟨hB, ro⟩
  obtain ⟨so, co0, co1, fo0, fo1⟩ := Fo _ ro
  refine (MU _ (he.below hB)).mono ?_
  rintro e W3 ⟨rfl, h1⟩
  clear so co0 co1 fo0 fo1
  replace hB := hB.trans (h1.mono hB.size)
  replace ro := Row.below ro h1
  clear h1
  obtain ⟨so, co0, co1, fo0, fo1⟩ := Fo _ ro
  go_wp2_with fail
  have sB := hB.size
  refine post_cut (fun X => Below w.heap.size w X ∧ Row X (w.heap.size + 1 + 1) (.cells #[.string (S x.num), .string (S (x.den : Int))] 26)) ⟨BW, RWk⟩ ?_
  clear ro
  clear so co0 co1 fo0 fo1
  clear hB sB
  rintro V4 ⟨hB, ro⟩
  clear Fo
  have Fo : ∀ X, Row X (w.heap.size + 1 + 1) (.cells #[.string (S x.num), .string (S (x.den : Int))] 26) → (w.heap.size + 1 + 1 < X.heap.size ∧ X.cell? ⟨w.heap.size + 1 + 1, 0, none⟩ = some (.string (S x.num)) ∧ X.cell? ⟨w.heap.size + 1 + 1, 1, none⟩ = some (.string (S (x.den : Int))) ∧ X.frozen? ⟨w.heap.size + 1 + 1, 0, none⟩ = false ∧ X.frozen? ⟨w.heap.size + 1 + 1, 1, none⟩ = false) := fun X h => ⟨h.1, Row.cell_at h 0 rfl, Row.cell_at h 1 rfl, frozen_of_row _ _ 0 _ _ h.2, frozen_of_row _ _ 1 _ _ h.2⟩
  obtain ⟨so, co0, co1, fo0, fo1⟩ := Fo _ ro
  refine bodyPost_ret (v := .tuple #[.agg #[.string (S x.num), .string (S (x.den : Int))], .int .i64 0]) ?res rfl ⟨rfl, hB⟩
  case res => simp [results, Tryz.results47, go_sem, co0, co1]
/-- A fraction from the one end of an interval to the other one. -/
def betw (a : Iv) (c : Int) : Rat := a.lo + (a.hi - a.lo) * Rat.divInt (pk c 5) 4
theorem betw_has {a : Iv} (h : a.Ok) (c : Int) : a.Has (betw a c) := by
  have k0 := pk_nonneg c (n := 5) (by decide); have k1 := pk_lt c (n := 5) (by decide)
  have h0 := divInt_nn (n := pk c 5) (d := 4) (by decide) k0
  have h1 : Rat.divInt (pk c 5) 4 ≤ 1 := by
    have := divInt_mn (n := pk c 5) (m := 4) (d := 4) (by decide) (by omega)
    rwa [show Rat.divInt 4 4 = 1 by decide +kernel] at this
  unfold Iv.Ok at h
  have h2 : 0 ≤ a.hi - a.lo := by grind
  have h3 := Rat.mul_nonneg h2 h0
  have h4 := Rat.mul_le_mul_of_nonneg_left h1 h2
  unfold betw
  exact ⟨by grind, by grind⟩
theorem betw_dig {a : Iv} (da : IDig 15 a) (c : Int) : QDig 48 (betw a c) := by
  have k0 := pk_nonneg c (n := 5) (by decide); have k1 := pk_lt c (n := 5) (by decide)
  exact QDig.add (j := 15) (k := 32) da.1 (QDig.mul (j := 31) (k := 1) (QDig.sub (j := 15) (k := 15) da.2 da.1) (QDig.ofInt (by decide) (by unfold Dig; omega) (by unfold Dig; omega)))
set_option maxRecDepth 100000 in
set_option maxHeartbeats 16000000 in
theorem dbetween {a : Iv} (da : IDig 15 a) {c : Int} (hc : IsInt c) (w : World) (he : Env w) : Calls Tryz.prog 46 #[I a, .int .i64 c] w (QOk (betw a c) w) := by
  have hB : Below w.heap.size w w := Below.refl _ _
  have dw := QDig.sub (j := 15) (k := 15) da.2 da.1
  have k0 := pk_nonneg c (n := 5) (by decide)
  have k1 := pk_lt c (n := 5) (by decide)
  have dc : QDig 1 (Rat.divInt (pk c 5) 4) := QDig.ofInt (by decide) (by unfold Dig; omega) (by unfold Dig; omega)
  have MU := fun W (H : Env W) => qsub (j := 15) (k := 15) da.2 da.1 (by omega) W H
  have KP := fun W => pickL12 c 5 hc (by decide) W
  have MO := fun W (H : Env W) => lof (n := pk c 5) (d := 4) ⟨by omega, by omega⟩ (by decide) (by decide) W H
  have MM := fun W (H : Env W) => qmul (j := 31) (k := 1) dw dc (by omega) W H
  have MA := fun W (H : Env W) => qadd (j := 15) (k := 32) da.1 (QDig.mul (j := 31) (k := 1) dw dc) (by omega) W H
  unfold betw I
  unfold QOk at *
  unfold Q at *
  generalize a.lo + (a.hi - a.lo) * Rat.divInt (pk c 5) 4 = x at *
  generalize (a.hi - a.lo) * Rat.divInt (pk c 5) 4 = y at *
  generalize Rat.divInt (pk c 5) 4 = z at *
  generalize pk c 5 = kc at *
  generalize a.hi - a.lo = wd at *
  clear da dw dc k0 k1
  go_enter Tryz.func46, Tryz.ntmps46
  go_wp2_with fail
  have d0_o : w.heap.size ≤ w.heap.size + 1 := by have := hB.size; omega
  have sB := hB.size
  refine world_cut (fun X => Below w.heap.size w X ∧ Row X w.heap.size (.cells #[.string (S a.lo.num), .string (S (a.lo.den : Int)), .string (S a.hi.num), .string (S (a.hi.den : Int))] 29) ∧ Row X (w.heap.size + 1) (.cells #[.string ⟨#[]⟩, .string ⟨#[]⟩] 26)) ⟨BW, RWk, RWk⟩ ?_
  clear hB sB
  rintro V1 ⟨hB, rba, ro⟩
  have Fba : ∀ X, Row X w.heap.size (.cells #[.string (S a.lo.num), .string (S (a.lo.den : Int)), .string (S a.hi.num), .string (S (a.hi.den : Int))] 29) → (w.heap.size < X.heap.size ∧ X.cell? ⟨w.heap.size, 0, none⟩ = some (.string (S a.lo.num)) ∧ X.cell? ⟨w.heap.size, 1, none⟩ = some (.string (S (a.lo.den : Int))) ∧ X.cell? ⟨w.heap.size, 2, none⟩ = some (.string (S a.hi.num)) ∧ X.cell? ⟨w.heap.size, 3, none⟩ = some (.string (S (a.hi.den : Int)))) := fun X h => ⟨h.1, Row.cell_at h 0 rfl, Row.cell_at h 1 rfl, Row.cell_at h 2 rfl, Row.cell_at h 3 rfl⟩
  obtain ⟨sba, cba0, cba1, cba2, cba3⟩ := Fba _ rba
  have Fo : ∀ X, Row X (w.heap.size + 1) (.cells #[.string ⟨#[]⟩, .string ⟨#[]⟩] 26) → (w.heap.size + 1 < X.heap.size ∧ X.cell? ⟨w.heap.size + 1, 0, none⟩ = some (.string ⟨#[]⟩) ∧ X.cell? ⟨w.heap.size + 1, 1, none⟩ = some (.string ⟨#[]⟩) ∧ X.frozen? ⟨w.heap.size + 1, 0, none⟩ = false ∧ X.frozen? ⟨w.heap.size + 1, 1, none⟩ = false) := fun X h => ⟨h.1, Row.cell_at h 0 rfl, Row.cell_at h 1 rfl, frozen_of_row _ _ 0 _ _ h.2, frozen_of_row _ _ 1 _ _ h.2⟩
  obtain ⟨so, co0, co1, fo0, fo1⟩ := Fo _ ro
  refine (MU _ (he.below hB)).mono ?_
  rintro e W2 ⟨rfl, h1⟩
  clear sba cba0 cba1 cba2 cba3
  clear so co0 co1 fo0 fo1
  replace hB := hB.trans (h1.mono hB.size)
  replace rba := Row.below rba h1
  replace ro := Row.below ro h1
  clear h1
  obtain ⟨sba, cba0, cba1, cba2, cba3⟩ := Fba _ rba
  obtain ⟨so, co0, co1, fo0, fo1⟩ := Fo _ ro
  go_wp2_with fail
  have do_wi : w.heap.size + 1 < W2.heap.size := by omega
  have sB := hB.size
  refine wp_cut (fun X => Below w.heap.size w X ∧ Row X w.heap.size (.cells #[.string (S a.lo.num), .string (S (a.lo.den : Int)), .string (S a.hi.num), .string (S (a.hi.den : Int))] 29) ∧ Row X (w.heap.size + 1) (.cells #[.string ⟨#[]⟩, .string ⟨#[]⟩] 26) ∧ Row X W2.heap.size (.cells #[.string (S wd.num), .string (S (wd.den : Int))] 26)) ⟨BW, RWk, RWk, RWk⟩ ?_
  clear rba
  clear sba cba0 cba1 cba2 cba3
  clear ro
  clear so co0 co1 fo0 fo1
  clear hB sB
  rintro V3 ⟨hB, rba, ro, rwi⟩
  obtain ⟨sba, cba0, cba1, cba2, cba3⟩ := Fba _ rba
  obtain ⟨so, co0, co1, fo0, fo1⟩ := Fo _ ro
  have Fwi : ∀ X, Row X W2.heap.size (.cells #[.string (S wd.num), .string (S (wd.den : Int))] 26) → (W2.heap.size < X.heap.size ∧ X.cell? ⟨W2.heap.size, 0, none⟩ = some (.string (S wd.num)) ∧ X.cell? ⟨W2.heap.size, 1, none⟩ = some (.string (S (wd.den : Int)))) := fun X h => ⟨h.1, Row.cell_at h 0 rfl, Row.cell_at h 1 rfl⟩
  obtain ⟨swi, cwi0, cwi1⟩ := Fwi _ rwi
  have dba_so := rba.1
  have do_so := ro.1
  have dwi_so := rwi.1
  have d0_so := hB.size
  refine wp_region_late 9 [7] [.val (.agg #[.string (S wd.num), .string (S (wd.den : Int))]), .val (.int .i64 c), .val (.int .i64 kc), .val (.agg #[.string (S z.num), .string (S (z.den : Int))]), .val (.tuple #[.agg #[.string (S y.num), .string (S (y.den : Int))], .int .i64 0]), .val (.tuple #[.agg #[.string (S y.num), .string (S (y.den : Int))], .int .i64 0]), .val (.agg #[.string (S y.num), .string (S (y.den : Int))]), .val (.int .i64 0), .say (fresh _ (.cells #[.string ⟨#[]⟩, .string ⟨#[]⟩] 26))] [8] (by kernel_rfl) (by kernel_rfl) (by kernel_rfl) rfl ⟨fresh_mono _ _, trivial⟩ (allItems.cons (qi1 fun X h => Fwi X (Row.below rwi h)) (allItems.cons qi0 (allItems.cons (qi2 fun X h => KP X) (allItems.cons (qi2 fun X h => MO X (he.below (hB.trans (h.mono hB.size)))) (allItems.cons (qi2 fun X h => MM X (he.below (hB.trans (h.mono hB.size)))) (allItems.cons qi0 (allItems.cons qi0 (allItems.cons qi0 (allItems.cons qia trivial))))))))) ?_
  rintro W h1
  clear sba cba0 cba1 cba2 cba3
  clear so co0 co1 fo0 fo1
  clear swi cwi0 cwi1
  replace hB := hB.trans (h1.mono hB.size)
  replace rba := Row.below rba h1
  replace ro := Row.below ro h1
  replace rwi := Row.below rwi h1
  clear h1
  obtain ⟨sba, cba0, cba1, cba2, cba3⟩ := Fba _ rba
  obtain ⟨so, co0, co1, fo0, fo1⟩ := Fo _ ro
  obtain ⟨swi, cwi0, cwi1⟩ := Fwi _ rwi
  simp only [setItems, List.setIfInBounds_toArray, List.set_cons_succ, List.set_cons_zero, List.take_succ_cons, List.take_zero, List.drop_succ_cons, List.drop_zero]
  rintro _ ⟨pso, rfl, hso, rso⟩
  replace dba_so := Nat.lt_of_lt_of_le dba_so hso
  replace do_so := Nat.lt_of_lt_of_le do_so hso
  replace dwi_so := Nat.lt_of_lt_of_le dwi_so hso
  replace d0_so := Nat.le_trans d0_so hso
  have Fso : ∀ X, Row X pso (.cells #[.string ⟨#[]⟩, .string ⟨#[]⟩] 26) → (pso < X.heap.size ∧ X.cell? ⟨pso, 0, none⟩ = some (.string ⟨#[]⟩) ∧ X.cell? ⟨pso, 1, none⟩ = some (.string ⟨#[]⟩) ∧ X.frozen? ⟨pso, 0, none⟩ = false ∧ X.frozen? ⟨pso, 1, none⟩ = false) := fun X h => ⟨h.1, Row.cell_at h 0 rfl, Row.cell_at h 1 rfl, frozen_of_row _ _ 0 _ _ h.2, frozen_of_row _ _ 1 _ _ h.2⟩
  obtain ⟨sso, cso0, cso1, fso0, fso1⟩ := Fso _ rso
  intro _
  go_wp2_with fail
  unfold normalQ
  go_wp2_with fail
  clear Fba
  clear Fwi
  clear Fso
  have sB := hB.size
  refine world_cut (fun X => Below w.heap.size w X ∧ Row X (w.heap.size + 1) (.cells #[.string ⟨#[]⟩, .string ⟨#[]⟩] 26)) ⟨BW, RWk⟩ ?_
  clear rba
  clear sba cba0 cba1 cba2 cba3
  clear ro
  clear so co0 co1 fo0 fo1
  clear rwi
  clear swi cwi0 cwi1
  clear rso
  clear sso cso0 cso1 fso0 fso1
  clear hB sB
  rintro V4 ⟨hB, ro⟩
  obtain ⟨so, co0, co1, fo0, fo1⟩ := Fo _ ro
  refine (MA _ (he.below hB)).mono ?_
  rintro e W5 ⟨rfl, h1⟩
  clear so co0 co1 fo0 fo1
  replace hB := hB.trans (h1.mono hB.size)
  replace ro := Row.below ro h1
  clear h1
  obtain ⟨so, co0, co1, fo0, fo1⟩ := Fo _ ro
  go_wp2_with fail
  have sB := hB.size
  refine post_cut (fun X => Below w.heap.size w X ∧ Row X (w.heap.size + 1) (.cells #[.string (S x.num), .string (S (x.den : Int))] 26)) ⟨BW, RWk⟩ ?_
  clear ro
  clear so co0 co1 fo0 fo1
  clear hB sB
  rintro V6 ⟨hB, ro⟩
  clear Fo
  have Fo : ∀ X, Row X (w.heap.size + 1) (.cells #[.string (S x.num), .string (S (x.den : Int))] 26) → (w.heap.size + 1 < X.heap.size ∧ X.cell? ⟨w.heap.size + 1, 0, none⟩ = some (.string (S x.num)) ∧ X.cell? ⟨w.heap.size + 1, 1, none⟩ = some (.string (S (x.den : Int))) ∧ X.frozen? ⟨w.heap.size + 1, 0, none⟩ = false ∧ X.frozen? ⟨w.heap.size + 1, 1, none⟩ = false) := fun X h => ⟨h.1, Row.cell_at h 0 rfl, Row.cell_at h 1 rfl, frozen_of_row _ _ 0 _ _ h.2, frozen_of_row _ _ 1 _ _ h.2⟩
  obtain ⟨so, co0, co1, fo0, fo1⟩ := Fo _ ro
  refine bodyPost_ret (v := .tuple #[.agg #[.string (S x.num), .string (S (x.den : Int))], .int .i64 0]) ?res rfl ⟨rfl, hB⟩
  case res => simp [results, Tryz.results46, go_sem, co0, co1]
end Go.Proofs.YtngohpgkceedeaaGreatDoor
