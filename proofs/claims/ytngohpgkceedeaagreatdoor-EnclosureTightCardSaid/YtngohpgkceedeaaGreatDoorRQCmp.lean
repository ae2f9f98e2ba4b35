/-
  The reference implementation of fractions: Compare.
-/
import Derived.Test.YtngohpgkceedeaaGreatDoorRQ
import Derived.Test.YtngohpgkceedeaaGreatDoorChains
namespace Go.Proofs.YtngohpgkceedeaaGreatDoor
open Go Go.RowKit Go.Lib Go.Shelf

set_option maxRecDepth 100000 in
set_option maxHeartbeats 4000000 in
theorem zero_yes (a : ByteArray) (h : (a.toList == [48]) = true) (w : World) : Calls Tryz.prog 148 #[.string a] w fun e w' => e = .returned (.string a) ∧ w' = w := by
  go_enter Tryz.func148, Tryz.ntmps148
  go_wp2
  go_ret
  exact ⟨rfl, rfl⟩
set_option maxRecDepth 100000 in
set_option maxHeartbeats 4000000 in
theorem zero_no (a : ByteArray) (h : (a.toList == [48]) = false) (w : World) : Calls Tryz.prog 148 #[.string a] w fun e w' => e = .returned (.string ⟨#[49]⟩) ∧ w' = w := by
  go_enter Tryz.func148, Tryz.ntmps148
  go_wp2
  go_ret
  exact ⟨rfl, rfl⟩
set_option maxRecDepth 100000 in
set_option maxHeartbeats 4000000 in
theorem rqcompare (a b : Rat) (ha : QDig 200 a) (hb : QDig 200 b) (w : World) : Calls Tryz.prog 85 #[Q a, Q b] w (CmpOk (cmpQ a b) w) := by
  have I0 : CmpInv (cmpQ a b) 1 a.num a.den b.num b.den := ⟨den_pos a, den_pos b, .inl rfl, by rw [Int.one_mul, cmpQ_parts], ha.1, ha.2, hb.1, hb.2⟩
  have QV1 := fun W => rqvalid a ha W
  have QV2 := fun W => rqvalid b hb W
  have hB : Below w.heap.size w w := Below.refl _ _
  clear ha hb
  generalize cmpQ a b = g at *
  show Calls Tryz.prog 85 #[.agg #[.string (S a.num), .string (S (a.den : Int))], .agg #[.string (S b.num), .string (S (b.den : Int))]] w _
  go_enter Tryz.func85, Tryz.ntmps85
  go_wp2_with fail
  have sB := hB.size
  refine world_cut (fun X => Below w.heap.size w X ∧ Row X w.heap.size (.cells #[.string (S a.num), .string (S (a.den : Int))] 26) ∧ Row X (w.heap.size + 1) (.cells #[.string (S b.num), .string (S (b.den : Int))] 26)) ⟨C1_hB, C2, C2⟩ ?_
  clear hB sB
  rintro V1 ⟨hB, ra, rb⟩
  obtain ⟨sa, ca0, ca1, fa0, fa1⟩ := Row.cells2 ra
  obtain ⟨sb, cb0, cb1, fb0, fb1⟩ := Row.cells2 rb
  refine (QV1 _).mono ?_
  rintro e W2 ⟨rfl, h1⟩
  clear sa ca0 ca1 fa0 fa1
  clear sb cb0 cb1 fb0 fb1
  replace hB := hB.trans (h1.mono hB.size)
  replace ra := Row.below ra h1
  replace rb := Row.below rb h1
  clear h1
  obtain ⟨sa, ca0, ca1, fa0, fa1⟩ := Row.cells2 ra
  obtain ⟨sb, cb0, cb1, fb0, fb1⟩ := Row.cells2 rb
  go_wp2_with fail
  refine (QV2 _).mono ?_
  rintro e W3 ⟨rfl, h1⟩
  clear sa ca0 ca1 fa0 fa1
  clear sb cb0 cb1 fb0 fb1
  replace hB := hB.trans (h1.mono hB.size)
  replace ra := Row.below ra h1
  replace rb := Row.below rb h1
  clear h1
  obtain ⟨sa, ca0, ca1, fa0, fa1⟩ := Row.cells2 ra
  obtain ⟨sb, cb0, cb1, fb0, fb1⟩ := Row.cells2 rb
  go_wp2_with fail
  clear ra rb sa sb ca0 ca1 cb0 cb1 fa0 fa1 fb0 fb1 QV1 QV2
  go_loopw [7, 8, 9, 10, 11] (fun v7 v8 v9 v10 v11 wr => ∃ (s n d m e : Int), v7 = .int .i64 s ∧ v8 = .string (S n) ∧ v9 = .string (S d) ∧ v10 = .string (S m) ∧ v11 = .string (S e) ∧ CmpInv g s n d m e ∧ Below w.heap.size w wr) (fun _ _ v9 _ _ _ => match v9 with | .string t => (zOf t.data.toList).natAbs | _ => 0)
  case atStart => exact ⟨1, a.num, a.den, b.num, b.den, rfl, rfl, rfl, rfl, rfl, I0, hB⟩
  case round =>
    clear hB I0
    obtain ⟨s, n, d, m, e, rfl, rfl, rfl, rfl, rfl, HI, hB⟩ := hrel
    have hd := Lib.hid HI.hd
    have hee := Lib.hid HI.he
    have V := Lib.hid HI.val
    have hs := Lib.hid HI.hs
    obtain ⟨fn, fd, fm, fe⟩ : Fits n ∧ Fits d ∧ Fits m ∧ Fits e := ⟨HI.fn, HI.fd, HI.fm, HI.fe⟩
    have sl : -1 ≤ s ∧ s ≤ 1 := by rcases hs.out with h | h <;> omega
    obtain ⟨sl1, sl2⟩ := sl
    clear HI
    obtain ⟨p, hp⟩ : ∃ p, n / d = p := ⟨_, rfl⟩
    obtain ⟨r, hr⟩ : ∃ r, n % d = r := ⟨_, rfl⟩
    obtain ⟨q, hq⟩ : ∃ q, m / e = q := ⟨_, rfl⟩
    obtain ⟨t, ht⟩ : ∃ t, m % e = t := ⟨_, rfl⟩
    have fp : Fits p := hp ▸ dig_fits_div fn d
    have fq : Fits q := hq ▸ dig_fits_div fm e
    have fr : Fits r := hr ▸ dig_fits_mod fd (by have := hd.out; omega)
    have ft : Fits t := ht ▸ dig_fits_mod fe (by have := hee.out; omega)
    have CR := Lib.hid (cmp_round (n := n) (m := m) hd.out hee.out)
    rw [hp, hr, hq, ht] at CR
    have P1 := Lib.hid hp
    have P2 := Lib.hid hr
    have P3 := Lib.hid hq
    have P4 := Lib.hid ht
    clear hp hr hq ht
    have in_ := is_S n
    have id_ := is_S d
    have im := is_S m
    have ie := is_S e
    have ip := is_S p
    have iq := is_S q
    go_wp2_with fail
    refine (rdivS in_ id_ P1 P2 fn fd (Lib.hid (by have := hd.out; omega)) _).mono ?_
    rintro e1 W1 ⟨rfl, h1⟩
    replace hB := hB.trans (h1.mono hB.size)
    clear h1
    go_wp2_with fail
    refine (rdivS im ie P3 P4 fm fe (Lib.hid (by have := hee.out; omega)) _).mono ?_
    rintro e1 W2 ⟨rfl, h1⟩
    replace hB := hB.trans (h1.mono hB.size)
    clear h1
    by_cases c0 : p = q
    · have C0 := Lib.hid c0
      have Z : Hid (cmpZ p q = 0) := Lib.hid (cmpZ_eq c0)
      clear c0
      go_wp2_with fail
      refine (rcmpS ip iq Z fp fq _).mono ?_
      rintro e1 W3 ⟨rfl, h1⟩
      replace hB := hB.trans (h1.mono hB.size)
      clear h1
      by_cases r0 : r = 0
      · have z1 := S_eq0 r0
        by_cases t0 : t = 0
        · have z2 := S_eq0 t0
          have CC : Hid (cmpZ 0 0 = 0) := Lib.hid (by decide)
          obtain ⟨v, hv⟩ : ∃ v, s * 0 = v := ⟨_, rfl⟩
          have G : Hid (g = v) := Lib.hid (by rw [← hv, ← V.out, CR.out.2.1 C0.out r0 t0])
          have vl : -1 ≤ v ∧ v ≤ 1 := by rw [← hv]; rcases hs.out with h | h <;> omega
          obtain ⟨vl1, vl2⟩ := vl
          have ix : Is (S r) 0 := (by rw [r0]; exact is_S 0)
          have iy : Is (S t) 0 := (by rw [t0]; exact is_S 0)
          clear r0 t0
          generalize S r = sr at *
          generalize S t = st at *
          go_wp2_with fail
          refine (zero_yes sr z1 _).mono ?_
          rintro e Wz ⟨rfl, rfl⟩
          go_wp2_with fail
          refine (zero_yes st z2 _).mono ?_
          rintro e Wz ⟨rfl, rfl⟩
          go_wp2_with fail
          refine (rcmpS ix iy CC (fits_lit (by decide)) (fits_lit (by decide)) _).mono ?_
          rintro e W5 ⟨rfl, h1⟩
          replace hB := hB.trans (h1.mono hB.size)
          go_wp2
          go_ret
          exact ⟨by rw [G.out]; rfl, hB⟩
        · have z2 := S_ne0 t0
          have CC : Hid (cmpZ 0 1 = -1) := Lib.hid (by decide)
          obtain ⟨v, hv⟩ : ∃ v, s * -1 = v := ⟨_, rfl⟩
          have G : Hid (g = v) := Lib.hid (by rw [← hv, ← V.out, CR.out.2.2.1 C0.out r0 t0])
          have vl : -1 ≤ v ∧ v ≤ 1 := by rw [← hv]; rcases hs.out with h | h <;> omega
          obtain ⟨vl1, vl2⟩ := vl
          have ix : Is (S r) 0 := (by rw [r0]; exact is_S 0)
          have iy : Is ⟨#[49]⟩ 1 := is_lit (by decide) (by decide)
          clear r0 t0
          generalize S r = sr at *
          generalize S t = st at *
          go_wp2_with fail
          refine (zero_yes sr z1 _).mono ?_
          rintro e Wz ⟨rfl, rfl⟩
          go_wp2_with fail
          refine (zero_no st z2 _).mono ?_
          rintro e Wz ⟨rfl, rfl⟩
          go_wp2_with fail
          refine (rcmpS ix iy CC (fits_lit (by decide)) (fits_lit (by decide)) _).mono ?_
          rintro e W5 ⟨rfl, h1⟩
          replace hB := hB.trans (h1.mono hB.size)
          go_wp2
          go_ret
          exact ⟨by rw [G.out]; rfl, hB⟩
      · have z1 := S_ne0 r0
        by_cases t0 : t = 0
        · have z2 := S_eq0 t0
          have CC : Hid (cmpZ 1 0 = 1) := Lib.hid (by decide)
          obtain ⟨v, hv⟩ : ∃ v, s * 1 = v := ⟨_, rfl⟩
          have G : Hid (g = v) := Lib.hid (by rw [← hv, ← V.out, CR.out.2.2.2.1 C0.out r0 t0])
          have vl : -1 ≤ v ∧ v ≤ 1 := by rw [← hv]; rcases hs.out with h | h <;> omega
          obtain ⟨vl1, vl2⟩ := vl
          have ix : Is ⟨#[49]⟩ 1 := is_lit (by decide) (by decide)
          have iy : Is (S t) 0 := (by rw [t0]; exact is_S 0)
          clear r0 t0
          generalize S r = sr at *
          generalize S t = st at *
          go_wp2_with fail
          refine (zero_no sr z1 _).mono ?_
          rintro e Wz ⟨rfl, rfl⟩
          go_wp2_with fail
          refine (zero_yes st z2 _).mono ?_
          rintro e Wz ⟨rfl, rfl⟩
          go_wp2_with fail
          refine (rcmpS ix iy CC (fits_lit (by decide)) (fits_lit (by decide)) _).mono ?_
          rintro e W5 ⟨rfl, h1⟩
          replace hB := hB.trans (h1.mono hB.size)
          go_wp2
          go_ret
          exact ⟨by rw [G.out]; rfl, hB⟩
        · have z2 := S_ne0 t0
          have L := Lib.hid (CR.out.2.2.2.2 C0.out r0 t0)
          clear r0 t0
          obtain ⟨sr, hsr⟩ : ∃ x, x = S r := ⟨_, rfl⟩
          obtain ⟨st, hst⟩ : ∃ x, x = S t := ⟨_, rfl⟩
          rw [← hsr] at z1 ⊢
          rw [← hst] at z2 ⊢
          have HR := Lib.hid hsr
          have HT := Lib.hid hst
          clear hsr hst
          go_wp2
          obtain rfl := HR.out
          obtain rfl := HT.out
          obtain ⟨l1, l2, l3, l4, l5⟩ := L.out
          have NI : CmpInv g (-s) d r e t := ⟨l1, l3, by rcases hs.out with h | h <;> omega, by rw [← V.out, l5]; simp [Int.neg_mul, Int.mul_neg], fd, fr, fe, ft⟩
          go_roundw
          case rel => exact ⟨-s, d, r, e, t, rfl, rfl, rfl, rfl, rfl, NI, hB⟩
          case measure =>
            simp only
            rw [is_S r, is_S d, zOf_itoa, zOf_itoa]
            omega
    · obtain ⟨c, hc⟩ : ∃ c, cmpZ p q = c := ⟨_, rfl⟩
      have Z := Lib.hid hc
      have n0 : (c != 0) = true := by
        rw [← hc]; unfold cmpZ; split <;> (try split) <;> first | rfl | omega
      obtain ⟨v, hv⟩ : ∃ v, s * c = v := ⟨_, rfl⟩
      have G : Hid (g = v) := Lib.hid (by rw [← V.out, CR.out.1 c0, ← hv, ← hc]; rfl)
      have vl : -1 ≤ v ∧ v ≤ 1 := by
        rw [← hv, ← hc]; unfold cmpZ; rcases hs.out with h | h <;> rw [h] <;> split <;> (try split) <;> omega
      obtain ⟨vl1, vl2⟩ := vl
      clear c0 hc
      go_wp2_with fail
      refine (rcmpS ip iq Z fp fq _).mono ?_
      rintro e1 W3 ⟨rfl, h1⟩
      replace hB := hB.trans (h1.mono hB.size)
      clear h1
      generalize S r = sr at *
      generalize S t = st at *
      go_wp2
      go_ret
      exact ⟨by rw [G.out]; rfl, hB⟩
end Go.Proofs.YtngohpgkceedeaaGreatDoor
