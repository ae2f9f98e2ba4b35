/-
  The exported functions, over strings: the root.
-/
import Derived.Test.YtnfkibgoockmpaaGreatDoorStr4
namespace Go.Proofs.YtnfkibgoockmpaaGreatDoor
open Go Go.RowKit Go.Lib Go.Shelf

theorem is_zero : (⟨#[48]⟩ : ByteArray).data.toList = itoa 0 := by rw [show (0 : Int) = ((0 : Nat) : Int) from rfl, itoa_nn, decDigits_zero]
theorem str_zero : Str (⟨#[48]⟩ : ByteArray) := by show (1 : Nat) ≤ _; omega
theorem fits_zero : Fits 0 := by unfold Fits; decide
def ErrOk (w : World) (e : Ending) (w' : World) : Prop := e = .returned (.tuple #[.string ⟨#[]⟩, .int .i64 30]) ∧ Below w.heap.size w w'
set_option maxRecDepth 100000 in
set_option maxHeartbeats 1000000 in
theorem root_bad (a : ByteArray) (w : World) (hv : validB a.data.toList = false) (hsa : Str a) :
    Calls Tryz.prog 21 #[.string a] w (ErrOk w) := by
  go_enter Tryz.func21, Tryz.ntmps21
  go_wp2_with (go_at_call 38; go_must (refine (both_bad a ⟨#[48]⟩ _ (by rw [hv]; rfl) hsa str_zero).mono ?_; rintro e w1 ⟨rfl, hb1⟩))
  refine bodyPost_ret (v := .tuple #[.string ⟨#[]⟩, .int .i64 30]) ?res rfl ⟨rfl, hb1.trans ((below2 w1 _ _).mono hb1.size)⟩
  case res => simp [results, Tryz.f21, go_sem]
set_option maxRecDepth 100000 in
set_option maxHeartbeats 1000000 in
theorem root_neg (a : ByteArray) (x : Int) (w : World) (ha : a.data.toList = itoa x) (hx : Fits x) (hx0 : x < 0) (hsa : Str a) :
    Calls Tryz.prog 21 #[.string a] w (ErrOk w) := by
  have hbo := both_ok a ⟨#[48]⟩ x 0 w ha is_zero hx fits_zero hsa str_zero
  rw [decide_eq_true hx0] at hbo
  have HX := Lib.hid hx0
  clear hx0
  go_enter Tryz.func21, Tryz.ntmps21
  go_wp2_with (go_at_call 38; go_must (refine hbo.mono ?_; rintro e w1 ⟨u, v, rfl, ⟨A1, n1, k1, rfl, hu⟩, ⟨A2, n2, k2, rfl, hv⟩, hb1⟩))
  refine bodyPost_ret (v := .tuple #[.string ⟨#[]⟩, .int .i64 30]) ?res rfl ⟨rfl, hb1.trans ((below2 w1 _ _).mono hb1.size)⟩
  case res => simp [results, Tryz.f21, go_sem]

theorem make_half (n K : Nat) (hK : K = (n + 1) / 2) (hn : n ≤ 1000000) (i : TypeInfo) (hi : Tryz.prog.info? 3 = some i) (hz : i.zero = some (.int .i64 0)) (hs : i.size = 1) (hb : i.bytes = 8) :
    ∀ W : World, (Instr.makeSlice 48 (.int .i64 (((n : Int) + 1) / 2)) (.int .i64 (((n : Int) + 1) / 2))).run Tryz.prog W = .ok (.slice (some ⟨W.heap.size, 0, none⟩) K K) (W.alloc (.cells (ints (List.replicate K 0)).toArray 3)) := by
  intro W
  rw [show ((n : Int) + 1) / 2 = (K : Int) by omega]
  exact run_make_zeros (P := Tryz.prog) 48 3 i Tryz.underlying48 hi hz hs hb K (by omega) W
theorem own_zeros (V : World) (K b : Nat) (hK : K ≤ 1000) (hb : V.heap.size = b) : (V.alloc (.cells (ints (List.replicate K 0)).toArray 3)).ownsRow V.heap.size 3 1 (.slice (some ⟨b, 0, none⟩) K K) K (ints (List.replicate K 0)) := by
  subst hb
  have := World.ownsRow_lit (base := V.heap.size) (e := 3) (size := 1) V (ints (List.replicate K 0)).toArray K (Nat.le_refl _) (by unfold maxLen; omega) (by simp [ints])
  simpa using this
theorem cell_one_new' (W : World) (v : Value) (t : TypeId) (b : Nat) (hb : b = W.heap.size) : ∀ j u, [v][j]? = some u → (W.alloc (.cells #[v] t)).cell? ((⟨b, 0, none⟩ : Addr).add j) = some u := by
  subst hb
  exact cell_one_new W v t
theorem lit_two (w : World) : IsNum (w.alloc (.cells #[.int .i64 2] 3)) (some ⟨w.heap.size, 0, none⟩) 1 1 2 := by
  have hlit := World.ownsRow_lit (base := w.heap.size) (e := 3) (size := 1) w #[.int .i64 2] 1 (Nat.le_refl _) (by unfold maxLen; omega) rfl
  exact ⟨[2], Reads.of_own hlit, ⟨Small.mk (by decide) small_nil, by decide⟩, by simp [val], Nat.le_refl _⟩
theorem two_lt : 2 < 10000 ^ 250 := by decide +kernel
theorem newton_lt (X R : Nat) (hR : R < 10000 ^ 200) (hX : Fits X) : R < 10000 ^ 250 ∧ X / R < 10000 ^ 250 ∧ R + X / R < 10000 ^ 250 := by
  have h1 : (10 : Nat) ^ 200 + 10000 ^ 200 ≤ 10000 ^ 250 := by decide +kernel
  have h2 : X / R ≤ X := Nat.div_le_self _ _
  unfold Fits at hX
  rw [Int.natAbs_natCast] at hX
  generalize (10 : Nat) ^ 200 = T at *
  generalize (10000 : Nat) ^ 200 = T2 at *
  generalize (10000 : Nat) ^ 250 = U at *
  omega
theorem newton_pos {X N : Nat} (hX : 0 < X) (h : X < (N + 1) * (N + 1)) : 0 < N := by
  rcases Nat.eq_zero_or_pos N with e | e
  · subst e; omega
  · exact e
theorem root_text {X R : Nat} (hX : Fits X) (h : R * R ≤ X) : tText (sv false R) = itoa R ∧ tErr (sv false R) = 0 := by
  refine text_fit (by simp [sv]) ?_
  unfold Fits at *
  rw [Int.natAbs_natCast] at *
  have : R ≤ R * R := Nat.le_mul_self R
  omega
def RootOk (X : Nat) (w : World) (e : Ending) (w' : World) : Prop := ∃ r : Nat, e = .returned (.tuple #[.string (S r), .int .i64 0]) ∧ IsRoot X r ∧ Below w.heap.size w w'
theorem start_num {w : World} {base k c : Nat} {A : Option Addr} (h : w.ownsRow base 3 1 (.slice A (k + 1) c) (k + 1) (ints (List.replicate k 0) ++ [.int .i64 1])) : IsNum w A (k + 1) c (10000 ^ k) := by
  have e : ints (List.replicate k 0) ++ [.int .i64 1] = ints (List.replicate k 0 ++ [1]) := by rw [ints_append]; rfl
  rw [e] at h
  refine ⟨_, Reads.of_own h, ⟨?_, by simp⟩, ?_, own_le h⟩
  · refine Small.append (fun d hd => ?_) (Small.mk (by decide) small_nil)
    obtain ⟨_, rfl⟩ := List.mem_replicate.1 hd
    decide
  · rw [val_snoc, List.length_replicate, Nat.one_mul]
    have : ∀ k, val (List.replicate k 0) = 0 := by
      intro k
      induction k with
      | zero => rfl
      | succ k ih => rw [List.replicate_succ]; simp [val, ih]
    rw [this, Nat.zero_add]
set_option maxRecDepth 100000 in
set_option maxHeartbeats 2000000 in
theorem root_pos (a : ByteArray) (X : Nat) (w : World) (ht : Tab w) (ha : a.data.toList = itoa X) (hx : Fits X) (hX0 : 0 < X) (hsa : Str a) :
    Calls Tryz.prog 21 #[.string a] w (RootOk X w) := by
  obtain ⟨lx, _, _⟩ := mul_lt hx hx
  rw [Int.natAbs_natCast] at lx
  have LX := Lib.hid lx
  clear lx
  have hbo := both_ok a ⟨#[48]⟩ X 0 w ha is_zero hx fits_zero hsa str_zero
  rw [decide_eq_false (show ¬ (X : Int) < 0 by omega), Int.natAbs_natCast] at hbo
  obtain ⟨i0, hi, hz0, hz1, hz2⟩ := info_parts intInfo
  go_enter Tryz.func21, Tryz.ntmps21
  go_wp2_with (first
    | (go_at_call 38; go_must (refine hbo.mono ?_; rintro e w1 ⟨u, v, rfl, ⟨A1, n1, k1, rfl, hu⟩, ⟨A2, n2, k2, rfl, hv⟩, hb1⟩; have hn1 := hu.le LX.out; have hn0 : 0 < n1 := (by rcases Nat.eq_zero_or_pos n1 with h | h; exact absurd (hu.zero.1 h) (by omega); exact h); obtain ⟨K, hK⟩ : ∃ K, K = (n1 + 1) / 2 := ⟨_, rfl⟩; have hmk := make_half n1 K hK (by omega) i0 hi hz0 hz1 hz2; have HK := Lib.hid hK; have hK1 : K ≤ 1000 := (by omega); clear hK))
    | (at_builtin; obtain ⟨m0, m1⟩ := two_new2 w1 #[.bool false, .slice A1 n1 k1] #[.bool false, .slice A2 n2 k2] 50; have hb2 := below2 w1 (.cells #[.bool false, .slice A1 n1 k1] 50) (.cells #[.bool false, .slice A2 n2 k2] 50); have hu2 := hu.below hb2; have hB2 := hb1.trans (hb2.mono hb1.size); have hVs : ((w1.alloc (.cells #[.bool false, .slice A1 n1 k1] 50)).alloc (.cells #[.bool false, .slice A2 n2 k2] 50)).heap.size = w1.heap.size + 1 + 1 := (by simp); have HVs := Lib.hid hVs; clear hVs; generalize ((w1.alloc (.cells #[.bool false, .slice A1 n1 k1] 50)).alloc (.cells #[.bool false, .slice A2 n2 k2] 50)) = V at *; refine wpList_append_own _ rfl (.tmp 29) (.tmp 30) 48 rfl V.heap.size 3 i0 (.int .i64 0) 1 8 Tryz.underlying48 hi hz0 hz1 hz2 rfl (by decide) (.slice (some ⟨w1.heap.size + 1 + 1, 0, none⟩) K K) K _ rfl ((own_zeros V K _ hK1 HVs.out).alloc _) ⟨w1.heap.size + 1 + 1 + 1, 0, none⟩ 1 1 [.int .i64 1] rfl rfl (cell_one_new' _ _ _ _ (by simp [HVs.out])) (by simp [Value.oneCell']) (by unfold maxLen; omega) (by omega) (by simp; omega) ?_; intro v' w3 hown3 hgrow3 _; obtain ⟨A3, c3, rfl⟩ := own_slice hown3))
  have hs3 : IsNum w3 A3 (K + 1) c3 (10000 ^ K) := start_num hown3
  have hb3 : Below V.heap.size V w3 := (((Below.refl _ _).alloc (Nat.le_refl _) _).alloc (by simp) _).grown hgrow3 (by simp; omega) (by simp [Value.ownBlock, HVs.out])
  have hstart : Hid (X < (10000 ^ K + 1) * (10000 ^ K + 1)) := Lib.hid (newton_start X K (by
    obtain ⟨l, h1, h2, h3, _⟩ := hu
    have h4 := val_lt h2.1
    rw [h3, ← h1.len] at h4
    have h5 : (10000 : Nat) ^ n1 ≤ 10000 ^ (2 * K) := Nat.pow_le_pow_right (by decide) (by have := HK.out; omega)
    exact Nat.lt_of_lt_of_le h4 h5))
  have hpow : Hid ((10000 : Nat) ^ K < 10000 ^ 200) := Lib.hid (Nat.pow_lt_pow_right (by decide) (by have := HK.out; omega))
  have hpos : Hid (0 < (10000 : Nat) ^ K) := Lib.hid (Nat.pow_pos (by decide))
  clear hown3 hgrow3 hmk
  go_loopw [7] (fun v wr => ∃ (A : Option Addr) (n c R : Nat), v = .slice A n c ∧ IsNum wr A n c R ∧ Hid (X < (R + 1) * (R + 1)) ∧ Hid (R < 10000 ^ 200) ∧ Hid (0 < R) ∧ Below V.heap.size V wr)
    (fun v wr => numOf wr v)
  case atStart => exact ⟨A3, K + 1, c3, 10000 ^ K, rfl, hs3, hstart, hpow, hpos, hb3⟩
  case round =>
    obtain ⟨A, n, c, R, rfl, hR, hab, hlt, hR0, hBr⟩ := hrel
    have g0 := (hBr.block _ (Array.getElem?_eq_some_iff.1 m0).1).trans m0
    obtain ⟨c1, c2, _, _⟩ := two_facts g0
    have hur := hu2.below hBr
    obtain ⟨ltR, ltQ, ltS⟩ := newton_lt X R hlt.out hx
    have LTR := Lib.hid ltR
    have LTS := Lib.hid ltS
    have mR : Hid (Mod R) := Lib.hid (mod_of_pow ltR (by omega))
    have mQ : Hid (Mod (X / R)) := Lib.hid (mod_of_pow ltQ (by omega))
    obtain ⟨N, hN⟩ : ∃ N, N = (R + X / R) / 2 := ⟨_, rfl⟩
    have hN1 : N < 10000 ^ 250 := by rw [hN]; exact Nat.lt_of_le_of_lt (Nat.div_le_self _ _) ltS
    have mN : Hid (Mod N) := Lib.hid (mod_of_pow hN1 (by omega))
    have HN := Lib.hid hN
    clear ltR ltQ ltS hN hN1
    by_cases hstop : R ≤ N
    · have hcz : 0 ≤ cmpZ (N : Int) (R : Int) := by unfold cmpZ; split <;> (try split) <;> omega
      have HT := Lib.hid (root_text hx (newton_stop X R (by rw [← HN.out]; exact hstop)))
      have HS : Hid (IsRoot X R) := Lib.hid ⟨newton_stop X R (by rw [← HN.out]; exact hstop), hab.out⟩
      clear hstop
      go_wp2_with (go_at_call_of 42 (Value.slice A1 n1 k1); go_must (refine (over_any A1 A n1 k1 n c X R _ hur hR LX.out LTR.out hR0.out).mono ?_; rintro e w4 ⟨Aq, nq, cq, Ar, nr, cr, rfl, hqq, _, hb4⟩))
      go_wp2_with (go_at_call 43; go_must (refine (plus_any A Aq n c nq cq _ _ _ (hR.below hb4) hqq mR.out mQ.out).mono ?_; rintro e w5 ⟨As, ns, cs, rfl, hss, hb5⟩))
      go_wp2_with (go_at_call_of 42 (Value.slice As ns cs); go_must (refine (over_any As (some ⟨w5.heap.size, 0, none⟩) ns cs 1 1 (R + X / R) 2 _ (hss.alloc _) (lit_two w5) LTS.out two_lt (by decide)).mono ?_; rintro e w6 ⟨An, nn, cn, Ax, nx, cx, rfl, hnn, _, hb6⟩; rw [← HN.out] at hnn; have hb56 : Below w5.heap.size w5 w6 := ((Below.refl _ w5).alloc (Nat.le_refl _) _).trans (hb6.mono (by simp)); have hR6 := ((hR.below hb4).below hb5).below hb56))
      go_wp2_with (go_at_call 46; go_must (refine (compare_any An A nn cn n c N R _ hnn hR6 mN.out mR.out).mono ?_; rintro e w7 ⟨rfl, hb7⟩; have hB4 := hBr.trans (hb4.mono hBr.size); have hB5 := hB4.trans (hb5.mono hB4.size); have hB6 := hB5.trans (hb56.mono hB5.size); have hB7 := hB6.trans (hb7.mono hB6.size); have hBw7 := hB2.trans (hB7.mono hB2.size)))
      go_wp2_with (go_at_call 40; go_must (refine (text_any _ false R _ ⟨A, n, c, rfl, (hR6.below hb7)⟩ LTR.out (ht.below hBw7)).mono ?_; rintro e w8 ⟨rfl, hb8⟩; rw [HT.out.1, HT.out.2]))
      refine bodyPost_ret (v := .tuple #[.string (S R), .int .i64 0]) ?res rfl ⟨R, rfl, HS.out, hBw7.trans (hb8.mono hBw7.size)⟩
      case res => simp [results, Tryz.f21, go_sem, S]
    · have hcz : cmpZ (N : Int) (R : Int) < 0 := by unfold cmpZ; split <;> (try split) <;> omega
      have hNR : Hid (N < R) := Lib.hid (by omega)
      have hN0 : Hid (0 < N) := Lib.hid (newton_pos hX0 (by have := newton_above X R hR0.out; rw [← HN.out] at this; exact this))
      clear hstop
      go_wp2_with (go_at_call_of 42 (Value.slice A1 n1 k1); go_must (refine (over_any A1 A n1 k1 n c X R _ hur hR LX.out LTR.out hR0.out).mono ?_; rintro e w4 ⟨Aq, nq, cq, Ar, nr, cr, rfl, hqq, _, hb4⟩))
      go_wp2_with (go_at_call 43; go_must (refine (plus_any A Aq n c nq cq _ _ _ (hR.below hb4) hqq mR.out mQ.out).mono ?_; rintro e w5 ⟨As, ns, cs, rfl, hss, hb5⟩))
      go_wp2_with (go_at_call_of 42 (Value.slice As ns cs); go_must (refine (over_any As (some ⟨w5.heap.size, 0, none⟩) ns cs 1 1 (R + X / R) 2 _ (hss.alloc _) (lit_two w5) LTS.out two_lt (by decide)).mono ?_; rintro e w6 ⟨An, nn, cn, Ax, nx, cx, rfl, hnn, _, hb6⟩; rw [← HN.out] at hnn; have hb56 : Below w5.heap.size w5 w6 := ((Below.refl _ w5).alloc (Nat.le_refl _) _).trans (hb6.mono (by simp)); have hR6 := ((hR.below hb4).below hb5).below hb56))
      go_wp2_with (go_at_call 46; go_must (refine (compare_any An A nn cn n c N R _ hnn hR6 mN.out mR.out).mono ?_; rintro e w7 ⟨rfl, hb7⟩; have hB4 := hBr.trans (hb4.mono hBr.size); have hB5 := hB4.trans (hb5.mono hB4.size); have hB6 := hB5.trans (hb56.mono hB5.size); have hB7 := hB6.trans (hb7.mono hB6.size); have hBw7 := hB2.trans (hB7.mono hB2.size)))
      go_roundw
      case rel => exact ⟨An, nn, cn, N, rfl, hnn.below hb7, Lib.hid (by have := newton_above X R hR0.out; rw [← HN.out] at this; exact this), Lib.hid (Nat.lt_trans hNR.out hlt.out), hN0, hB7⟩
      case measure => rw [numOf_eq (hnn.below hb7), numOf_eq hR]; exact hNR.out
end Go.Proofs.YtnfkibgoockmpaaGreatDoor
