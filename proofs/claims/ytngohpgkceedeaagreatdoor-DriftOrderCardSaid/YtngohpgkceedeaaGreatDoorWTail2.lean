/-
  The reference implementation of fractions: Compare. Regions that draw their order, make several new blocks, and end in stores: the new blocks lie apart, whatever the order.
-/
import Derived.Test.YtngohpgkceedeaaGreatDoorWQPlain7
import Derived.Test.YtngohpgkceedeaaGreatDoorWRQ
import Derived.Test.YtngohpgkceedeaaGreatDoorWTail
set_option linter.unusedSimpArgs false
set_option linter.unusedVariables false
namespace Go.Proofs.YtngohpgkceedeaaGreatDoor
open Go Go.RowKit Go.Lib Go.Shelf

set_option maxRecDepth 100000 in
set_option maxHeartbeats 4000000 in
theorem zero_yes (a : ByteArray) (h : (a.toList == [48]) = true) (w : World) : Calls Tryz.prog 148 #[.string a] w fun e w' => e = .returned (.string a) ∧ w' = w := by
  go_enter Tryz.func148, Tryz.ntmps148
  go_wp2
  go_ret
  exact ⟨rfl, rfl⟩
set_option maxRecDepth 100000 in
set_option maxHeartbeats 4000000 in
theorem zero_no (a : ByteArray) (h : (a.toList == [48]) = false) (w : World) : Calls Tryz.prog 148 #[.string a] w fun e w' => e = .returned (.string ⟨#[49]⟩) ∧ w' = w := by
  go_enter Tryz.func148, Tryz.ntmps148
  go_wp2
  go_ret
  exact ⟨rfl, rfl⟩
set_option maxRecDepth 100000 in
set_option maxHeartbeats 4000000 in
theorem rqcompare (a b : Rat) (ha : QDig 200 a) (hb : QDig 200 b) (w : World) : Calls Tryz.prog 85 #[Q a, Q b] w (CmpOk (cmpQ a b) w) := by
  have I0 : CmpInv (cmpQ a b) 1 a.num a.den b.num b.den := ⟨den_pos a, den_pos b, .inl rfl, by rw [Int.one_mul, cmpQ_parts], ha.1, ha.2, hb.1, hb.2⟩
  have QV1 := fun W => rqvalid a ha W
  have QV2 := fun W => rqvalid b hb W
  have hB : Below w.heap.size w w := Below.refl _ _
  clear ha hb
  generalize cmpQ a b = g at *
  show Calls Tryz.prog 85 #[.agg #[.string (S a.num), .string (S (a.den : Int))], .agg #[.string (S b.num), .string (S (b.den : Int))]] w _
  go_enter Tryz.func85, Tryz.ntmps85
  go_wp2_with fail
  have sB := hB.size
  refine world_cut (fun X => Below w.heap.size w X ∧ Row X w.heap.size (.cells #[.string (S a.num), .string (S (a.den : Int))] 26) ∧ Row X (w.heap.size + 1) (.cells #[.string (S b.num), .string (S (b.den : Int))] 26)) ⟨C1_hB, C2, C2⟩ ?_
  clear hB sB
  rintro V1 ⟨hB, ra, rb⟩
  obtain ⟨sa, ca0, ca1, fa0, fa1⟩ := Row.cells2 ra
  obtain ⟨sb, cb0, cb1, fb0, fb1⟩ := Row.cells2 rb
  refine (QV1 _).mono ?_
  rintro e W2 ⟨rfl, h1⟩
  clear sa ca0 ca1 fa0 fa1
  clear sb cb0 cb1 fb0 fb1
  replace hB := hB.trans (h1.mono hB.size)
  replace ra := Row.below ra h1
  replace rb := Row.below rb h1
  clear h1
  obtain ⟨sa, ca0, ca1, fa0, fa1⟩ := Row.cells2 ra
  obtain ⟨sb, cb0, cb1, fb0, fb1⟩ := Row.cells2 rb
  go_wp2_with fail
  refine (QV2 _).mono ?_
  rintro e W3 ⟨rfl, h1⟩
  clear sa ca0 ca1 fa0 fa1
  clear sb cb0 cb1 fb0 fb1
  replace hB := hB.trans (h1.mono hB.size)
  replace ra := Row.below ra h1
  replace rb := Row.below rb h1
  clear h1
  obtain ⟨sa, ca0, ca1, fa0, fa1⟩ := Row.cells2 ra
  obtain ⟨sb, cb0, cb1, fb0, fb1⟩ := Row.cells2 rb
  go_wp2_with fail
  clear ra rb sa sb ca0 ca1 cb0 cb1 fa0 fa1 fb0 fb1 QV1 QV2
  go_loopw [7, 8, 9, 10, 11] (fun v7 v8 v9 v10 v11 wr => ∃ (s n d m e : Int), v7 = .int .i64 s ∧ v8 = .string (S n) ∧ v9 = .string (S d) ∧ v10 = .string (S m) ∧ v11 = .string (S e) ∧ CmpInv g s n d m e ∧ Below w.heap.size w wr) (fun _ _ v9 _ _ _ => match v9 with | .string t => (zOf t.data.toList).natAbs | _ => 0)
  case atStart => exact ⟨1, a.num, a.den, b.num, b.den, rfl, rfl, rfl, rfl, rfl, I0, hB⟩
  case round =>
    clear hB I0
    obtain ⟨s, n, d, m, e, rfl, rfl, rfl, rfl, rfl, HI, hB⟩ := hrel
    have hd := Lib.hid HI.hd
    have hee := Lib.hid HI.he
    have V := Lib.hid HI.val
    have hs := Lib.hid HI.hs
    obtain ⟨fn, fd, fm, fe⟩ : Fits n ∧ Fits d ∧ Fits m ∧ Fits e := ⟨HI.fn, HI.fd, HI.fm, HI.fe⟩
    have sl : -1 ≤ s ∧ s ≤ 1 := by rcases hs.out with h | h <;> omega
    obtain ⟨sl1, sl2⟩ := sl
    clear HI
    obtain ⟨p, hp⟩ : ∃ p, n / d = p := ⟨_, rfl⟩
    obtain ⟨r, hr⟩ : ∃ r, n % d = r := ⟨_, rfl⟩
    obtain ⟨q, hq⟩ : ∃ q, m / e = q := ⟨_, rfl⟩
    obtain ⟨t, ht⟩ : ∃ t, m % e = t := ⟨_, rfl⟩
    have fp : Fits p := hp ▸ dig_fits_div fn d
    have fq : Fits q := hq ▸ dig_fits_div fm e
    have fr : Fits r := hr ▸ dig_fits_mod fd (by have := hd.out; omega)
    have ft : Fits t := ht ▸ dig_fits_mod fe (by have := hee.out; omega)
    have CR := Lib.hid (cmp_round (n := n) (m := m) hd.out hee.out)
    rw [hp, hr, hq, ht] at CR
    have P1 := Lib.hid hp
    have P2 := Lib.hid hr
    have P3 := Lib.hid hq
    have P4 := Lib.hid ht
    clear hp hr hq ht
    have in_ := is_S n
    have id_ := is_S d
    have im := is_S m
    have ie := is_S e
    have ip := is_S p
    have iq := is_S q
    go_wp2_with fail
    refine (rdivS in_ id_ P1 P2 fn fd (Lib.hid (by have := hd.out; omega)) _).mono ?_
    rintro e1 W1 ⟨rfl, h1⟩
    replace hB := hB.trans (h1.mono hB.size)
    clear h1
    go_wp2_with fail
    refine (rdivS im ie P3 P4 fm fe (Lib.hid (by have := hee.out; omega)) _).mono ?_
    rintro e1 W2 ⟨rfl, h1⟩
    replace hB := hB.trans (h1.mono hB.size)
    clear h1
    by_cases c0 : p = q
    · have C0 := Lib.hid c0
      have Z : Hid (cmpZ p q = 0) := Lib.hid (cmpZ_eq c0)
      clear c0
      go_wp2_with fail
      refine (rcmpS ip iq Z fp fq _).mono ?_
      rintro e1 W3 ⟨rfl, h1⟩
      replace hB := hB.trans (h1.mono hB.size)
      clear h1
      by_cases r0 : r = 0
      · have z1 := S_eq0 r0
        by_cases t0 : t = 0
        · have z2 := S_eq0 t0
          have CC : Hid (cmpZ 0 0 = 0) := Lib.hid (by decide)
          obtain ⟨v, hv⟩ : ∃ v, s * 0 = v := ⟨_, rfl⟩
          have G : Hid (g = v) := Lib.hid (by rw [← hv, ← V.out, CR.out.2.1 C0.out r0 t0])
          have vl : -1 ≤ v ∧ v ≤ 1 := by rw [← hv]; rcases hs.out with h | h <;> omega
          obtain ⟨vl1, vl2⟩ := vl
          have ix : Is (S r) 0 := (by rw [r0]; exact is_S 0)
          have iy : Is (S t) 0 := (by rw [t0]; exact is_S 0)
          clear r0 t0
          generalize S r = sr at *
          generalize S t = st at *
          go_wp2_with fail
          refine (zero_yes sr z1 _).mono ?_
          rintro e Wz ⟨rfl, rfl⟩
          go_wp2_with fail
          refine (zero_yes st z2 _).mono ?_
          rintro e Wz ⟨rfl, rfl⟩
          go_wp2_with fail
          refine (rcmpS ix iy CC (fits_lit (by decide)) (fits_lit (by decide)) _).mono ?_
          rintro e W5 ⟨rfl, h1⟩
          replace hB := hB.trans (h1.mono hB.size)
          go_wp2
          go_ret
          exact ⟨by rw [G.out]; rfl, hB⟩
        · have z2 := S_ne0 t0
          have CC : Hid (cmpZ 0 1 = -1) := Lib.hid (by decide)
          obtain ⟨v, hv⟩ : ∃ v, s * -1 = v := ⟨_, rfl⟩
          have G : Hid (g = v) := Lib.hid (by rw [← hv, ← V.out, CR.out.2.2.1 C0.out r0 t0])
          have vl : -1 ≤ v ∧ v ≤ 1 := by rw [← hv]; rcases hs.out with h | h <;> omega
          obtain ⟨vl1, vl2⟩ := vl
          have ix : Is (S r) 0 := (by rw [r0]; exact is_S 0)
          have iy : Is ⟨#[49]⟩ 1 := is_lit (by decide) (by decide)
          clear r0 t0
          generalize S r = sr at *
          generalize S t = st at *
          go_wp2_with fail
          refine (zero_yes sr z1 _).mono ?_
          rintro e Wz ⟨rfl, rfl⟩
          go_wp2_with fail
          refine (zero_no st z2 _).mono ?_
          rintro e Wz ⟨rfl, rfl⟩
          go_wp2_with fail
          refine (rcmpS ix iy CC (fits_lit (by decide)) (fits_lit (by decide)) _).mono ?_
          rintro e W5 ⟨rfl, h1⟩
          replace hB := hB.trans (h1.mono hB.size)
          go_wp2
          go_ret
          exact ⟨by rw [G.out]; rfl, hB⟩
      · have z1 := S_ne0 r0
        by_cases t0 : t = 0
        · have z2 := S_eq0 t0
          have CC : Hid (cmpZ 1 0 = 1) := Lib.hid (by decide)
          obtain ⟨v, hv⟩ : ∃ v, s * 1 = v := ⟨_, rfl⟩
          have G : Hid (g = v) := Lib.hid (by rw [← hv, ← V.out, CR.out.2.2.2.1 C0.out r0 t0])
          have vl : -1 ≤ v ∧ v ≤ 1 := by rw [← hv]; rcases hs.out with h | h <;> omega
          obtain ⟨vl1, vl2⟩ := vl
          have ix : Is ⟨#[49]⟩ 1 := is_lit (by decide) (by decide)
          have iy : Is (S t) 0 := (by rw [t0]; exact is_S 0)
          clear r0 t0
          generalize S r = sr at *
          generalize S t = st at *
          go_wp2_with fail
          refine (zero_no sr z1 _).mono ?_
          rintro e Wz ⟨rfl, rfl⟩
          go_wp2_with fail
          refine (zero_yes st z2 _).mono ?_
          rintro e Wz ⟨rfl, rfl⟩
          go_wp2_with fail
          refine (rcmpS ix iy CC (fits_lit (by decide)) (fits_lit (by decide)) _).mono ?_
          rintro e W5 ⟨rfl, h1⟩
          replace hB := hB.trans (h1.mono hB.size)
          go_wp2
          go_ret
          exact ⟨by rw [G.out]; rfl, hB⟩
        · have z2 := S_ne0 t0
          have L := Lib.hid (CR.out.2.2.2.2 C0.out r0 t0)
          clear r0 t0
          obtain ⟨sr, hsr⟩ : ∃ x, x = S r := ⟨_, rfl⟩
          obtain ⟨st, hst⟩ : ∃ x, x = S t := ⟨_, rfl⟩
          rw [← hsr] at z1 ⊢
          rw [← hst] at z2 ⊢
          have HR := Lib.hid hsr
          have HT := Lib.hid hst
          clear hsr hst
          go_wp2
          obtain rfl := HR.out
          obtain rfl := HT.out
          obtain ⟨l1, l2, l3, l4, l5⟩ := L.out
          have NI : CmpInv g (-s) d r e t := ⟨l1, l3, by rcases hs.out with h | h <;> omega, by rw [← V.out, l5]; simp [Int.neg_mul, Int.mul_neg], fd, fr, fe, ft⟩
          go_roundw
          case rel => exact ⟨-s, d, r, e, t, rfl, rfl, rfl, rfl, rfl, NI, hB⟩
          case measure =>
            simp only
            rw [is_S r, is_S d, zOf_itoa, zOf_itoa]
            omega
    · obtain ⟨c, hc⟩ : ∃ c, cmpZ p q = c := ⟨_, rfl⟩
      have Z := Lib.hid hc
      have n0 : (c != 0) = true := by
        rw [← hc]; unfold cmpZ; split <;> (try split) <;> first | rfl | omega
      obtain ⟨v, hv⟩ : ∃ v, s * c = v := ⟨_, rfl⟩
      have G : Hid (g = v) := Lib.hid (by rw [← V.out, CR.out.1 c0, ← hv, ← hc]; rfl)
      have vl : -1 ≤ v ∧ v ≤ 1 := by
        rw [← hv, ← hc]; unfold cmpZ; rcases hs.out with h | h <;> rw [h] <;> split <;> (try split) <;> omega
      obtain ⟨vl1, vl2⟩ := vl
      clear c0 hc
      go_wp2_with fail
      refine (rcmpS ip iq Z fp fq _).mono ?_
      rintro e1 W3 ⟨rfl, h1⟩
      replace hB := hB.trans (h1.mono hB.size)
      clear h1
      generalize S r = sr at *
      generalize S t = st at *
      go_wp2
      go_ret
      exact ⟨by rw [G.out]; rfl, hB⟩
end Go.Proofs.YtngohpgkceedeaaGreatDoor
namespace Go.Proofs.YtngohpgkceedeaaGreatDoor
open Go Go.RowKit Go.Lib Go.Shelf

def isNew (o : Oper) : Bool := (match o.op with | .alloc _ => true | _ => false) && o.guard.isNone
theorem new_run {P : Program} {ρ : Operand → Value} {o : Oper} {W W' : World} {n : Next} (h : isNew o = true) (hr : (execOp ρ o).run P W = .ok n W') : n = .value (.pointer (some ⟨W.heap.size, 0, none⟩)) ∧ W.heap.size < W'.heap.size := by
  unfold isNew at h
  rw [Bool.and_eq_true] at h
  have h1 := h.1
  cases ho : o.op with
  | alloc e =>
    simp [execOp, ho, go_sem] at hr
    cases hz : Sem.run P (zeroValue e) W with
    | halt x W1 => rw [hz] at hr; cases hr
    | ok v W1 =>
      rw [hz] at hr
      simp only [Result.andThen, Result.ok.injEq] at hr
      have hw : W1 = W := by
        unfold zeroValue typeInfo at hz
        cases hi : P.info? e with
        | none => simp [go_sem, hi] at hz
        | some i =>
          cases hzz : i.zero with
          | none => simp [go_sem, hi, hzz] at hz
          | some z => simp [go_sem, hi, hzz] at hz; exact hz.2.symm
      obtain ⟨rfl, rfl⟩ := hr
      subst hw
      exact ⟨rfl, by simp⟩
  | _ => simp [ho] at h1
/-- New blocks lie apart. -/
structure ApartAt (ops : Array Oper) (listed : Array Bool) (a : Act) (W : World) : Prop where
  old : ∀ i (o : Oper) t, ops[i]? = some o → isNew o = true → o.dst = some t → listed.getD i false = true → ∃ b, a.eval (.tmp t) = .pointer (some ⟨b, 0, none⟩) ∧ b < W.heap.size
  apart : ∀ i j (o p : Oper) t s, ops[i]? = some o → ops[j]? = some p → isNew o = true → isNew p = true → o.dst = some t → p.dst = some s → i ≠ j → listed.getD i false = true → listed.getD j false = true → a.eval (.tmp t) ≠ a.eval (.tmp s)
theorem quietAt_step2 {P : Program} {ops : Array Oper} {Q : Exit → Act → World → Prop} {Sp : Nat → QSay} {tmps : Array Value} {ds : List Deferred} {w : World} {fl : List Oper}
    (hmono : ∀ i v W W', Sp i v W → Below W.heap.size W W' → Sp i v W') (hfit : quietFit ops tmps.size = true)
    {i : Nat} {o : Oper} {listed : Array Bool} {a : Act} {W : World} (hob0 : quietOb P ops fl Sp tmps w i o) (hfl : ∀ j (p : Oper), ops[j]? = some p → listed.getD j false = true → p ∈ fl) (ho : ops[i]? = some o) (hJ : QuietAt ops Sp tmps ds w listed a W) (hA : ApartAt ops listed a W)
    (hni : listed.getD i false = false) (hdep : ∀ e ∈ o.after, Region.binds .any e = true → listed.getD e.on false = true) :
    wpOp P ops Q i (fun a' W' => QuietAt ops Sp tmps ds w (listed.setIfInBounds i true) a' W' ∧ ApartAt ops (listed.setIfInBounds i true) a' W') a W := by
  have hob := hob0 a.eval W hJ.below (fun _ => rfl) (fun _ => rfl) (fun _ => rfl)
    (fun t ht => by rw [eval_tmp, Array.getD_eq_getD_getElem?, Array.getD_eq_getD_getElem?, hJ.same t (fun j p hp hl => foreign_mem ht (hfl j p hp hl))])
    (depsSay_of _ fun e he hb p t hp ht => hJ.done e.on p t hp ht (hdep e (by simpa using he) hb))
  have other : ∀ v j (p : Oper) t, ops[j]? = some p → p.dst = some t → j ≠ i → (a.put o.dst v).eval (.tmp t) = a.eval (.tmp t) := by
    intro v j p t hp ht hji
    have h2 := quietFit.own hfit hp ho ht (Ne.symm hji)
    rw [eval_tmp, eval_tmp]
    unfold Act.put
    cases hd : o.dst with
    | none => rfl
    | some d =>
      have : d ≠ t := fun e => h2 (by rw [hd, e])
      simp only
      rw [Array.getD_eq_getD_getElem?, Array.getElem?_setIfInBounds_ne this, ← Array.getD_eq_getD_getElem?]
  have own : ∀ v t, o.dst = some t → (a.put o.dst v).eval (.tmp t) = v := by
    intro v t ht
    rw [eval_tmp]
    unfold Act.put
    rw [ht]
    simp only
    rw [Array.getD_eq_getD_getElem?, Array.getElem?_setIfInBounds_self, if_pos (by rw [hJ.size]; exact quietFit.lt hfit ho ht)]
    rfl
  have fin : ∀ v W', Sp i v W' → Below W.heap.size W W' → (isNew o = true → v = .pointer (some ⟨W.heap.size, 0, none⟩) ∧ W.heap.size < W'.heap.size) → QuietAt ops Sp tmps ds w (listed.setIfInBounds i true) (a.put o.dst v) W' ∧ ApartAt ops (listed.setIfInBounds i true) (a.put o.dst v) W' := by
    intro v W' hs hB hnew
    refine ⟨⟨hJ.below.trans (hB.mono hJ.below.size), ?_, ?_, by rw [Array.size_setIfInBounds]; exact hJ.lsize, ?_, ?_⟩, ⟨?_, ?_⟩⟩
    · rw [← hJ.defers]; unfold Act.put; split <;> rfl
    · rw [← hJ.size]; unfold Act.put; split <;> simp
    · intro j p t hp ht hj
      by_cases hji : j = i
      · subst hji
        rw [ho] at hp; cases hp
        rw [own v t ht]
        exact hs
      · rw [other v j p t hp ht hji]
        exact hmono _ _ _ _ (hJ.done j p t hp ht ((listed_set hj).resolve_left hji)) hB
    · intro t ht
      have hself : o.dst ≠ some t := ht i o ho (listed_self (by rw [hJ.lsize]; exact (Array.getElem?_eq_some_iff.1 ho).1))
      rw [← hJ.same t (fun j p hp hl => ht j p hp (listed_keep hl))]
      unfold Act.put
      cases hd : o.dst with
      | none => rfl
      | some d =>
        have : d ≠ t := fun e => hself (by rw [hd, e])
        simp only
        rw [Array.getElem?_setIfInBounds_ne this]
    · intro j p t hp hn ht hj
      by_cases hji : j = i
      · subst hji
        rw [ho] at hp; cases hp
        rw [own v t ht]
        exact ⟨_, (hnew hn).1, (hnew hn).2⟩
      · rw [other v j p t hp ht hji]
        obtain ⟨b, e, hb⟩ := hA.old j p t hp hn ht ((listed_set hj).resolve_left hji)
        exact ⟨b, e, Nat.lt_of_lt_of_le hb hB.size⟩
    · intro j k p q t s hp hq hnp hnq ht hs' hne hj hk
      by_cases hji : j = i
      · subst hji
        rw [ho] at hp; cases hp
        rw [own v t ht, other v k q s hq hs' (Ne.symm hne), (hnew hnp).1]
        obtain ⟨b, e, hb⟩ := hA.old k q s hq hnq hs' ((listed_set hk).resolve_left (Ne.symm hne))
        rw [e]
        intro h
        simp at h
        try omega
      · rw [other v j p t hp ht hji]
        by_cases hki : k = i
        · subst hki
          rw [ho] at hq; cases hq
          rw [own v s hs', (hnew hnq).1]
          obtain ⟨b, e, hb⟩ := hA.old j p t hp hnp ht ((listed_set hj).resolve_left hji)
          rw [e]
          intro h
          simp at h
          try omega
        · rw [other v k q s hq hs' hki]
          exact hA.apart j k p q t s hp hq hnp hnq ht hs' hne ((listed_set hj).resolve_left hji) ((listed_set hk).resolve_left hki)
  unfold wpOp
  simp only [ho]
  rw [yielded_by]
  split at hob
  · rename_i hw
    rw [if_pos hw]
    left
    unfold Oper.wp Oper.upon
    cases hr : (execOp a.eval o).run P W with
    | ok n W' =>
      rw [hr] at hob
      cases n with
      | value v => exact fin v W' hob.1 hob.2 (fun hn => by have := new_run hn hr; simpa using this)
      | skip => exact fin _ W' hob.1 hob.2 (fun hn => by have := new_run hn hr; cases this.1)
      | enter f args =>
        refine Calls.mono hob.2 fun e W'' he => ?_
        obtain ⟨v, rfl, hs, hB⟩ := he
        exact fin v W'' hs (hob.1.trans (hB.mono hob.1.size)) (fun hn => by have := new_run hn hr; cases this.1)
      | _ => exact hob.elim
    | halt x W' => rw [hr] at hob; exact hob.elim
  · rename_i hw
    rw [if_neg hw]
    refine fin _ W hob (Below.refl _ _) (fun hn => ?_)
    exfalso
    apply hw
    unfold isNew at hn
    rw [Bool.and_eq_true] at hn
    have hg : o.guard = none := by simpa using hn.2
    simp [Region.wanted, hg]
def newDsts : List Oper → List Nat
  | [] => []
  | o :: l => match o.dst with | some t => if isNew o then t :: newDsts l else newDsts l | none => newDsts l
def Apart (L : List Nat) (T : Array Value) : Prop := L.Pairwise fun t s => T.getD t undef ≠ T.getD s undef
theorem mem_newDsts {t : Nat} : ∀ {l : List Oper}, t ∈ newDsts l → ∃ (i : Nat) (o : Oper), l[i]? = some o ∧ isNew o = true ∧ o.dst = some t
  | [], h => by cases h
  | o :: l, h => by
    have back : t ∈ newDsts l → ∃ (i : Nat) (p : Oper), (o :: l)[i]? = some p ∧ isNew p = true ∧ p.dst = some t := fun h => by
      obtain ⟨i, p, h1, h2⟩ := mem_newDsts h
      exact ⟨i + 1, p, by simpa using h1, h2⟩
    unfold newDsts at h
    cases hd : o.dst with
    | none => rw [hd] at h; exact back h
    | some d =>
      rw [hd] at h
      simp only at h
      split at h
      · rename_i hn
        rcases List.mem_cons.1 h with rfl | h
        · exact ⟨0, o, rfl, hn, hd⟩
        · exact back h
      · exact back h
theorem apart_of {T : Array Value} : ∀ {l : List Oper}, (∀ (i j : Nat) (o p : Oper) (t s : Nat), l[i]? = some o → l[j]? = some p → isNew o = true → isNew p = true → o.dst = some t → p.dst = some s → i ≠ j → T.getD t undef ≠ T.getD s undef) → Apart (newDsts l) T
  | [], _ => List.Pairwise.nil
  | o :: l, h => by
    have ih : Apart (newDsts l) T := apart_of fun i j p q t s hp hq h1 h2 h3 h4 hne => h (i + 1) (j + 1) p q t s (by simpa using hp) (by simpa using hq) h1 h2 h3 h4 (by omega)
    unfold newDsts
    cases hd : o.dst with
    | none => exact ih
    | some d =>
      simp only
      split
      · rename_i hn
        refine List.Pairwise.cons (fun s hs => ?_) ih
        obtain ⟨j, p, hp, hnp, hps⟩ := mem_newDsts hs
        exact h 0 (j + 1) o p d s rfl (by simpa using hp) hn hnp hd hps (by omega)
      · exact ih
theorem apart3 {a b c : Nat} {T : Array Value} (h : Apart [a, b, c] T) : T.getD a undef ≠ T.getD b undef ∧ T.getD a undef ≠ T.getD c undef ∧ T.getD b undef ≠ T.getD c undef := by
  unfold Apart at h
  rw [List.pairwise_cons, List.pairwise_cons] at h
  exact ⟨h.1 b (by simp), h.1 c (by simp), h.2.1 c (by simp)⟩
end Go.Proofs.YtngohpgkceedeaaGreatDoor
