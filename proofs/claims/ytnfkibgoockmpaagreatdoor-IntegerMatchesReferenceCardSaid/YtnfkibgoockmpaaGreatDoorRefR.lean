/-
  The reference implementation: roots.
-/
import Derived.Test.YtnfkibgoockmpaaGreatDoorRefF
namespace Go.Proofs.YtnfkibgoockmpaaGreatDoor
open Go Go.RowKit Go.Lib Go.Shelf

structure ROut (X K : Nat) (o : List Nat) (m : Nat) : Prop where
  len : o.length = K
  small : Small10 o
  low : ∀ j, j < m → o.getD j 0 = 0
  lo : val10 o * val10 o ≤ X
  hi : X < (val10 o + 10 ^ m) * (val10 o + 10 ^ m)
structure RIn (X K : Nat) (o : List Nat) (i s : Nat) : Prop where
  len : o.length = K
  small : Small10 o
  low : ∀ j, j < i → o.getD j 0 = 0
  val : val10 o = s + o.getD i 0 * 10 ^ i
  base : s * s ≤ X
  hi : X < (val10 o + 10 ^ i) * (val10 o + 10 ^ i)
theorem getD_set_self {o : List Nat} {i : Nat} (d : Nat) (h : i < o.length) : (o.set i d).getD i 0 = d := by
  rw [List.getD_eq_getElem?_getD, List.getElem?_set_self h]; rfl
theorem getD_set_other {o : List Nat} {i j : Nat} (d : Nat) (h : j ≠ i) : (o.set i d).getD j 0 = o.getD j 0 := by
  rw [List.getD_eq_getElem?_getD, List.getElem?_set_ne (by omega), ← List.getD_eq_getElem?_getD]
theorem ROut.start {X n : Nat} (K : Nat) (hX : X < 10 ^ n) (hK : n ≤ 2 * K) : ROut X K (List.replicate K 0) K :=
  ⟨by simp, small10_zeros _, fun j hj => by rw [List.getD_eq_getElem?_getD, List.getElem?_replicate, if_pos hj]; rfl, by rw [val10_replicate]; omega, by
    rw [val10_replicate, Nat.zero_add, ← Nat.pow_add]
    exact Nat.lt_of_lt_of_le hX (Nat.pow_le_pow_right (by decide) (by omega))⟩
theorem ROut.open_ {X K : Nat} {o : List Nat} {i : Nat} (h : ROut X K o (i + 1)) (hi : i < K) : RIn X K (o.set i 9) i (val10 o) := by
  have hl : i < o.length := by rw [h.len]; exact hi
  have h0 := h.low i (by omega)
  have hv := val10_set o i 9 hl
  rw [h0] at hv
  have e : val10 (o.set i 9) = val10 o + 9 * 10 ^ i := by omega
  refine ⟨by rw [List.length_set, h.len], small10_set h.small _ (by decide), fun j hj => by rw [getD_set_other _ (by omega)]; exact h.low j (by omega), by rw [getD_set_self _ hl, e], h.lo, ?_⟩
  have := h.hi
  rw [Nat.pow_succ] at this
  rw [e, show val10 o + 9 * 10 ^ i + 10 ^ i = val10 o + 10 ^ i * 10 by omega]
  exact this
theorem RIn.step {X K : Nat} {o : List Nat} {i s d : Nat} (h : RIn X K o i s) (hi : i < K) (hd : o.getD i 0 = d + 1) (hbig : X < val10 o * val10 o) : RIn X K (o.set i d) i s := by
  have hl : i < o.length := by rw [h.len]; exact hi
  have h9 := h.small.get i
  have hv := val10_set o i d hl
  rw [hd, Nat.add_mul, Nat.one_mul] at hv
  have e : val10 (o.set i d) + 10 ^ i = val10 o := by omega
  have hval := h.val
  rw [hd, Nat.add_mul, Nat.one_mul] at hval
  exact ⟨by rw [List.length_set, h.len], small10_set h.small _ (by omega), fun j hj => by rw [getD_set_other _ (by omega)]; exact h.low j hj, by rw [getD_set_self _ hl]; omega, h.base, by rw [e]; exact hbig⟩
theorem RIn.close {X K : Nat} {o : List Nat} {i s : Nat} (h : RIn X K o i s) (hc : o.getD i 0 = 0 ∨ val10 o * val10 o ≤ X) : ROut X K o i := by
  refine ⟨h.len, h.small, h.low, ?_, h.hi⟩
  rcases hc with hc | hc
  · have hv := h.val
    rw [hc, Nat.zero_mul, Nat.add_zero] at hv
    rw [hv]; exact h.base
  · exact hc
theorem ROut.done {X K : Nat} {o : List Nat} (h : ROut X K o 0) : IsRoot X (val10 o) := ⟨h.lo, by have := h.hi; rwa [Nat.pow_zero] at this⟩
set_option maxRecDepth 100000 in
set_option maxHeartbeats 1000000 in
theorem rtrimmed_any (A : Option Addr) (n c : Nat) (l : List Nat) (w : World) (h : NumV w A n l) (hs : Small10 l) (hn : n ≤ 1000) :
    Calls Tryz.prog 56 #[.slice A n c] w (GivesD (val10 l) w) := by
  obtain ⟨i0, hi, hz0, hz1, hz2⟩ := info_parts intInfo
  have hlit := World.ownsRow_lit (base := w.heap.size) (e := 3) (size := 1) w #[] 0 (Nat.le_refl _) (by unfold maxLen; omega) rfl
  have hsrc : Reads (w.alloc (.cells #[] 3)) w.heap.size 1 A n (ints l) := Reads.alloc h (Nat.le_refl _) _
  clear h
  go_enter Tryz.func56, Tryz.ntmps56
  go_wp2_with (first
    | (at_builtin; refine wpList_append_reads _ rfl (.tmp 3) (.tmp 4) 44 rfl w.heap.size 3 i0 (.int .i64 0) 1 8 Tryz.underlying44 hi hz0 hz1 hz2 rfl (by decide) (.slice (some ⟨w.heap.size, 0, none⟩) 0 0) 0 [] rfl hlit w.heap.size A n c (ints l) rfl hsrc (ints_one l) (by unfold maxLen; omega) (by omega) (by simp) ?_; intro v' W1 hown1 hgrow1; obtain ⟨A1, c1, rfl⟩ := own_slice hown1; have hbW1 : Below w.heap.size w W1 := ((Below.refl _ _).alloc (Nat.le_refl _) _).grown hgrow1 (by simp) (fun g hg => by simp [Value.ownBlock] at hg; omega); have hN1 : NumV W1 A1 (0 + n) l := (Reads.of_own hown1 : Reads W1 W1.heap.size 1 A1 (0 + n) _); have hcap1 := own_le hown1; have HA1 : Hid (∀ ad, A1 = some ad → w.heap.size ≤ ad.block) := Lib.hid (fun ad e => own_ge hown1 _ (by rw [e]; rfl)); rw [Nat.zero_add] at hN1 hcap1)
    | (go_at_call 37; refine (trim_any A1 _ c1 l _ (by first | exact hN1 | (rw [Nat.zero_add]; exact hN1)) (by omega) (by omega) hs).mono ?_; rintro e Wt ⟨⟨kt, rfl, hkt, hNt, hnt, hvt⟩, rfl⟩))
  go_ret
  exact ⟨A1, kt, c1, rfl, ⟨_, hNt, hnt, hvt, by omega⟩, hbW1, HA1.out⟩
theorem make_half10 (n K : Nat) (hK : K = (n + 1) / 2) (hn : n ≤ 1000000) (i : TypeInfo) (hi : Tryz.prog.info? 3 = some i) (hz : i.zero = some (.int .i64 0)) (hs : i.size = 1) (hb : i.bytes = 8) :
    ∀ W : World, (Instr.makeSlice 44 (.int .i64 (((n : Int) + 1) / 2)) (.int .i64 (((n : Int) + 1) / 2))).run Tryz.prog W = .ok (.slice (some ⟨W.heap.size, 0, none⟩) K K) (W.alloc (.cells (ints (List.replicate K 0)).toArray 3)) := by
  intro W
  rw [show ((n : Int) + 1) / 2 = (K : Int) by omega]
  exact make_ints K (by omega) i hi hz hs hb W
def RRootOk (X : Nat) (w : World) (e : Ending) (w' : World) : Prop := ∃ r : Nat, e = .returned (.tuple #[.string (S r), .int .i64 0]) ∧ IsRoot X r ∧ Below w.heap.size w w'
set_option maxRecDepth 100000 in
set_option maxHeartbeats 8000000 in
theorem rroot_nn {a : ByteArray} {X : Nat} (ha : Is a X) (hx : Fits X) (w : World) :
    Calls Tryz.prog 30 #[.string a] w (RRootOk X w) := by
  obtain ⟨i0, hi, hz0, hz1, hz2⟩ := info_parts intInfo
  have h0 : 0 < a.size := by
    rw [← size_len]
    have := itoa_ne_nil (X : Int)
    unfold Is at ha
    rw [← ha] at this
    exact List.length_pos_iff.2 this
  have hc3 : ((a[0].toNat : Int) == 45) = false := by
    rw [beq_eq_false_iff_ne]
    intro e
    have h1 := idx_list a 0 h0
    rw [← List.head?_eq_getElem?] at h1
    have h2 : a[0] = 45 := UInt8.toNat_inj.1 (by have e2 : (a[0].toNat : Int) = 45 := e; exact Int.ofNat_inj.1 e2)
    rw [h2] at h1
    unfold Is at ha
    rw [ha] at h1
    have h3 := (itoa_head (X : Int)).1 h1
    exact absurd h3 (by omega)
  have hXX : Hid (X < 10 ^ 200) := Lib.hid (by have : (X : Int).natAbs < 10 ^ 200 := hx; rwa [Int.natAbs_natCast] at this)
  have hxd : decide ((X : Int) < 0) = false := decide_eq_false (by omega)
  go_enter Tryz.func30, Tryz.ntmps30
  go_wp2_with fail
  refine (rvalid_is ha hx _).mono ?_
  rintro e W ⟨rfl, hw⟩
  rw [hw]
  clear hw W
  go_wp2_with fail
  refine (rdigits_any ha hx _).mono ?_
  rintro e W ⟨A1, n1, c1, rfl, D1, hb1⟩
  rw [hxd]
  rw [Int.natAbs_natCast] at D1
  clear hxd hc3
  have L1 := D1.le hXX.out
  obtain ⟨K, hK⟩ : ∃ K, K = (n1 + 1) / 2 := ⟨_, rfl⟩
  have hmk := make_half10 n1 K hK (by omega) i0 hi hz0 hz1 hz2
  have HK := Lib.hid hK
  have hK1 : K ≤ 100 := by omega
  have hst0 : Hid (ROut X K (List.replicate K 0) K) := Lib.hid (ROut.start K D1.bound (by omega))
  obtain ⟨w0, rfl⟩ : ∃ w0, w0 = W := ⟨_, rfl⟩
  clear hK
  go_wp2
  clear hmk
  have HD := Lib.hid D1
  clear D1
  go_loopw [7] (fun iv wr => ∃ (xx : Int) (k : Nat) (o : List Nat), Hid (xx + 1 = k) ∧ k ≤ K ∧ -1 ≤ xx ∧ xx < K ∧ iv = .int .i64 xx ∧ wr.heap[w0.heap.size]? = some (.cells (ints o).toArray 3 (0, 0)) ∧ Below w0.heap.size w0 wr ∧ Hid (ROut X K o k))
    (fun iv _ => (RowKit.intOf iv + 1).toNat)
  case atStart => exact ⟨(K : Int) - 1, K, List.replicate K 0, by show _ = _; omega, Nat.le_refl _, by omega, by omega, rfl, heap_alloc_new _ _, (Below.refl _ _).alloc (Nat.le_refl _) _, hst0⟩
  case round =>
    obtain ⟨xx, k, o, hxk, hkn, hx1, hxn, rfl, harr, hB, hI⟩ := hrel
    obtain ⟨wo, rfl⟩ : ∃ wo : World, wo = wr := ⟨_, rfl⟩
    by_cases hxp : 0 ≤ xx
    · obtain ⟨i, rfl⟩ : ∃ i : Nat, xx = (i : Int) := ⟨xx.toNat, by omega⟩
      obtain rfl : k = i + 1 := by have := hxk.out; omega
      have hiK : i < K := by omega
      have hoL : i < o.length := by rw [hI.out.len]; exact hiK
      have hopen := Lib.hid (hI.out.open_ hiK)
      have g3 := arr_cell harr hoL
      have g4 := arr_free harr i
      have harr1 := arr_set harr i 9
      have hB1 := hB.setCell (p := ⟨w0.heap.size, i, none⟩) (Nat.le_refl _) (.int .i64 ((9 : Nat) : Int))
      clear hxp hoL hI harr hB
      generalize o.getD i 0 = old at g3
      obtain ⟨s, hs⟩ : ∃ s, s = val10 o := ⟨_, rfl⟩
      rw [← hs] at hopen
      clear hs
      go_wp2
      go_loopw [] (fun wr => ∃ (o : List Nat), wr.heap[w0.heap.size]? = some (.cells (ints o).toArray 3 (0, 0)) ∧ Below w0.heap.size w0 wr ∧ Hid (RIn X K o i s))
        (fun wr => match wr.cell? ⟨w0.heap.size, i, none⟩ with | some v => (RowKit.intOf v).toNat | none => 0)
      case atStart => exact ⟨_, harr1, hB1, hopen⟩
      case round =>
        clear harr1 hB1 hopen g3 g4
        obtain ⟨o, harr, hB, hI⟩ := hrel
        have hoL : i < o.length := by rw [hI.out.len]; exact hiK
        have hszr : w0.heap.size < wr.heap.size := (Array.getElem?_eq_some_iff.1 harr).1
        have hnum : NumV wr (some ⟨w0.heap.size, 0, none⟩) K o := by have := arr_num harr; rwa [hI.out.len] at this
        have hsm := hI.out.small
        have hvK : Hid (val10 o < 10 ^ 100) := Lib.hid (by
          have h1 := val10_lt hsm
          rw [hI.out.len] at h1
          exact Nat.lt_of_lt_of_le h1 (Nat.pow_le_pow_right (by decide) hK1))
        obtain ⟨tq, htq⟩ : ∃ t, t = o.getD i 0 := ⟨_, rfl⟩
        have g3 := arr_cell harr hoL
        rw [← htq] at g3
        have g4 := arr_free harr i
        have t9 : tq < 10 := by rw [htq]; exact hsm.get i
        have HTQ := Lib.hid htq
        clear htq
        rcases Nat.eq_zero_or_pos tq with ht | ht
        · have hcl := Lib.hid (hI.out.close (.inl (by rw [← HTQ.out]; exact ht)))
          subst ht
          go_wp2
          go_roundw
          case rel => exact ⟨(i : Int) - 1, i, o, by show _ = _; omega, by omega, by omega, by omega, rfl, harr, hB, hcl⟩
          case measure => simp [RowKit.intOf]
        · by_cases hbig : X < val10 o * val10 o
          · have hc : Hid (cmpZ ((val10 o * val10 o : Nat) : Int) (X : Int) = 1) := Lib.hid (by unfold cmpZ; rw [if_neg (by omega), if_pos (by omega)])
            obtain ⟨d, rfl⟩ : ∃ d, tq = d + 1 := ⟨tq - 1, by omega⟩
            have hst := Lib.hid (hI.out.step hiK HTQ.out.symm hbig)
            clear hbig
            go_wp2_with fail
            refine (rtrimmed_any (some ⟨w0.heap.size, 0, none⟩) K K o _ hnum hsm (by omega)).mono ?_
            rintro e W2 ⟨A2, n2, c2, rfl, h2, hb2, _⟩
            go_wp2_with fail
            refine (rtrimmed_any (some ⟨w0.heap.size, 0, none⟩) K K o _ (hnum.below hb2) hsm (by omega)).mono ?_
            rintro e W3 ⟨A3, n3, c3, rfl, h3, hb3, _⟩
            have L2 : n2 ≤ 100 := h2.le hvK.out
            have L3 : n3 ≤ 100 := h3.le hvK.out
            have h2' := h2.below hb3
            go_wp2_with fail
            refine (rtimes_any A2 A3 n2 c2 n3 c3 _ _ _ h2' h3 (by omega) (by omega)).mono ?_
            rintro e W4 ⟨A4, n4, c4, rfl, h4, hb4, _⟩
            have L4 : n4 ≤ 400 := h4.len400 (by omega) (by omega) h2' h3 hb4
            have hB4 := ((hB.trans (hb2.mono hB.size)).trans (hb3.mono (hB.trans (hb2.mono hB.size)).size)).trans (hb4.mono ((hB.trans (hb2.mono hB.size)).trans (hb3.mono (hB.trans (hb2.mono hB.size)).size)).size)
            go_wp2_with fail
            refine (rorder_any A4 A1 n4 c4 n1 c1 _ X _ h4 (HD.out.below hB4) (by omega) (by omega)).mono ?_
            rintro e W5 ⟨rfl, hb5⟩
            have hB5 := hB4.trans (hb5.mono hB4.size)
            have hbr : Below wr.heap.size wr W5 := ((hb2.trans (hb3.mono hb2.size)).trans (hb4.mono (hb2.trans (hb3.mono hb2.size)).size)).trans (hb5.mono ((hb2.trans (hb3.mono hb2.size)).trans (hb4.mono (hb2.trans (hb3.mono hb2.size)).size)).size)
            have harr5 : W5.heap[w0.heap.size]? = some (.cells (ints o).toArray 3 (0, 0)) := (hbr.block _ hszr).trans harr
            clear h2 h3 h4 hb2 hb3 hb4 hb5 h2' hB4
            rw [hc.out]
            have g5 := arr_cell harr5 hoL
            rw [← HTQ.out] at g5
            have g6 := arr_free harr5 i
            have hsub : ((d + 1 : Nat) : Int) - 1 = (d : Int) := by omega
            have hold : Hid (wr.cell? ⟨w0.heap.size, i, none⟩ = some (.int .i64 ((d + 1 : Nat) : Int))) := Lib.hid g3
            clear g3 g4
            go_wp2
            go_roundw
            case rel => exact ⟨o.set i d, by first | exact arr_set harr5 _ _ | (rw [hsub]; exact arr_set harr5 _ _), hB5.setCell (p := ⟨w0.heap.size, i, none⟩) (Nat.le_refl _) _, hst⟩
            case measure =>
              have hnew : (W5.setCell ⟨w0.heap.size, i, none⟩ (.int .i64 (d : Int))).cell? ⟨w0.heap.size, i, none⟩ = some (.int .i64 (d : Int)) := by
                have := arr_cell (arr_set harr5 i d) (j := i) (by rw [List.length_set]; exact hoL)
                rwa [getD_set_self _ hoL] at this
              rw [hold.out]
              first
                | (rw [hnew]; simp [RowKit.intOf])
                | (rw [hsub, hnew]; simp [RowKit.intOf])
          · have hcl := Lib.hid (hI.out.close (.inr (by omega)))
            have hcz : ∃ c, cmpZ ((val10 o * val10 o : Nat) : Int) (X : Int) = c ∧ c ≤ 0 := ⟨_, rfl, by unfold cmpZ; split <;> (try split) <;> omega⟩
            obtain ⟨cc, hcz1, hcz2⟩ := hcz
            have hc := Lib.hid hcz1
            clear hcz1 hbig
            go_wp2_with fail
            refine (rtrimmed_any (some ⟨w0.heap.size, 0, none⟩) K K o _ hnum hsm (by omega)).mono ?_
            rintro e W2 ⟨A2, n2, c2, rfl, h2, hb2, _⟩
            go_wp2_with fail
            refine (rtrimmed_any (some ⟨w0.heap.size, 0, none⟩) K K o _ (hnum.below hb2) hsm (by omega)).mono ?_
            rintro e W3 ⟨A3, n3, c3, rfl, h3, hb3, _⟩
            have L2 : n2 ≤ 100 := h2.le hvK.out
            have L3 : n3 ≤ 100 := h3.le hvK.out
            have h2' := h2.below hb3
            go_wp2_with fail
            refine (rtimes_any A2 A3 n2 c2 n3 c3 _ _ _ h2' h3 (by omega) (by omega)).mono ?_
            rintro e W4 ⟨A4, n4, c4, rfl, h4, hb4, _⟩
            have L4 : n4 ≤ 400 := h4.len400 (by omega) (by omega) h2' h3 hb4
            have hB4 := ((hB.trans (hb2.mono hB.size)).trans (hb3.mono (hB.trans (hb2.mono hB.size)).size)).trans (hb4.mono ((hB.trans (hb2.mono hB.size)).trans (hb3.mono (hB.trans (hb2.mono hB.size)).size)).size)
            go_wp2_with fail
            refine (rorder_any A4 A1 n4 c4 n1 c1 _ X _ h4 (HD.out.below hB4) (by omega) (by omega)).mono ?_
            rintro e W5 ⟨rfl, hb5⟩
            have hB5 := hB4.trans (hb5.mono hB4.size)
            have hbr : Below wr.heap.size wr W5 := ((hb2.trans (hb3.mono hb2.size)).trans (hb4.mono (hb2.trans (hb3.mono hb2.size)).size)).trans (hb5.mono ((hb2.trans (hb3.mono hb2.size)).trans (hb4.mono (hb2.trans (hb3.mono hb2.size)).size)).size)
            have harr5 : W5.heap[w0.heap.size]? = some (.cells (ints o).toArray 3 (0, 0)) := (hbr.block _ hszr).trans harr
            clear h2 h3 h4 hb2 hb3 hb4 hb5 h2' hB4
            rw [hc.out]
            clear g3 g4
            go_wp2
            go_roundw
            case rel => exact ⟨(i : Int) - 1, i, o, by show _ = _; omega, by omega, by omega, by omega, rfl, harr5, hB5, hcl⟩
            case measure => simp [RowKit.intOf]
    · have hx' : xx < 0 := by omega
      obtain rfl : k = 0 := by have := hxk.out; omega
      have hroot := Lib.hid hI.out.done
      have hsm := hI.out.small
      have hnum : NumV wo (some ⟨w0.heap.size, 0, none⟩) K o := by have := arr_num harr; rwa [hI.out.len] at this
      have hs : Hid (sv false (val10 o) = ((val10 o : Nat) : Int)) := Lib.hid (by simp [sv])
      have hft : Fits ((val10 o : Nat) : Int) := by
        have h1 := hroot.out.1
        have h2 := Nat.le_mul_self (val10 o)
        have h3 := hXX.out
        unfold Fits
        rw [Int.natAbs_natCast]
        omega
      have TQ := Lib.hid (tText_fit hft)
      have EQ := Lib.hid (tErr_fit hft)
      clear hxp hft
      go_wp2_with (go_at_call 37; refine (trim_any (some ⟨w0.heap.size, 0, none⟩) K K o _ hnum (by omega) (Nat.le_refl _) hsm).mono ?_; rintro e w2 ⟨⟨k', rfl, hk', hN', hnorm, hval⟩, rfl⟩)
      refine (rchecked_any false hs _ ⟨o.take k', hN', hnorm, hval, by omega⟩ (by omega)).mono ?_
      rintro e W9 ⟨rfl, hb9⟩
      rw [TQ.out, EQ.out]
      go_wp2
      refine bodyPost_ret (v := .tuple #[.string (S ((val10 o : Nat) : Int)), .int .i64 0]) ?res rfl ⟨val10 o, rfl, hroot.out, (hb1.trans (hB.mono hb1.size)).trans (hb9.mono (hb1.trans (hB.mono hb1.size)).size)⟩
      case res => simp [results, Tryz.f30, go_sem]
end Go.Proofs.YtnfkibgoockmpaaGreatDoor
