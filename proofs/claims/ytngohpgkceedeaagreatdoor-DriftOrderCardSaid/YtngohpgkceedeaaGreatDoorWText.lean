/-
  text: an integer as a string.
-/
import Derived.Deep.DeepMust
import Derived.Lib.AppendIntMem
import Derived.Shelf.SlSorted.Search
import Derived.Test.YtngohpgkceedeaaGreatDoorWBuild
import Derived.Test.YtngohpgkceedeaaGreatDoorWSig
namespace Go.Proofs.YtngohpgkceedeaaGreatDoor
open Go Go.RowKit Go.Lib Go.Shelf

/-- A builder stands where the blocks of cells stand. -/
theorem builder_keep {T e : TypeId} {B b : Nat} {bs : List Value} {W W' : World} (h : Lib.IsBuilderF T e B b bs W) (hk : ∀ (k : Nat) cs t f, W.heap[k]? = some (.cells cs t f) → W'.heap[k]? = some (.cells cs t f)) : Lib.IsBuilderF T e B b bs W' := by
  have key : ∀ p, Lib.BuilderAtF T e B b p bs W → Lib.BuilderAtF T e B b p bs W' := by
    rintro p ⟨hB, v, hb, hown, hne⟩
    refine ⟨hB, v, hk _ _ _ _ hb, ?_, hne⟩
    refine ⟨hown.1, ?_⟩
    rcases hown.2 with h2 | ⟨g, cap, cur, fz, h1, h2, h3, h4⟩
    · exact .inl h2
    · exact .inr ⟨g, cap, cur, fz, h1, h2, hk _ _ _ _ h3, h4⟩
  exact h.elim (fun x => .inl (key _ x)) (fun x => .inr (key _ x))
/-- The text that the rounds have written. -/
def textStep (l : List Nat) (s : List UInt8) (i : Nat) : List UInt8 := s ++ (if i + 1 < l.length then pad4 (gd l i) else decDigits (gd l i))
def textTo (l : List Nat) {m : Nat} (pre : List (Place m)) : List UInt8 := pre.foldl (fun s i => textStep l s i.1) []
theorem textTo_snoc (l : List Nat) {m : Nat} (pre : List (Place m)) (i : Place m) : textTo l (pre ++ [i]) = textStep l (textTo l pre) i.1 := by simp [textTo]
theorem textTo_len (l : List Nat) (hl : Small l) {m : Nat} (pre : List (Place m)) : (textTo l pre).length ≤ 4 * pre.length := by
  have key : ∀ (pre : List (Place m)) (s : List UInt8), (pre.foldl (fun s i => textStep l s i.1) s).length ≤ s.length + 4 * pre.length := by
    intro pre
    induction pre with
    | nil => intro s; simp
    | cons i pre ih =>
      intro s
      have h1 := ih (textStep l s i.1)
      have h2 : (textStep l s i.1).length ≤ s.length + 4 := by
        unfold textStep
        have h3 := hl.gd_lt i.1
        rw [List.length_append]
        split
        · rw [pad4_length h3]; omega
        · have h4 : (decDigits (gd l i.1)).length ≤ 4 := (dec_lt (gd l i.1) 4 (by decide)).2 h3
          omega
      simp only [List.foldl_cons, List.length_cons]
      omega
  have := key pre []
  simpa [textTo] using this
theorem textTo_upto (l : List Nat) (m : Nat) (hm : m = l.length) : ∀ j, j ≤ m → textTo l (upto (bk m) j) = textH (l.reverse.take j) := by
  intro j
  induction j with
  | zero => intro _; simp [upto, textTo, textH]
  | succ j ih =>
    intro hj
    have e : (bk m j).1 = m - (j + 1) := by unfold bk; simp; omega
    rw [upto_succ, textTo_snoc, ih (by omega), e]
    have hg : l.reverse.take (j + 1) = l.reverse.take j ++ [gd l (m - (j + 1))] := by
      rw [List.take_add_one]
      congr 1
      rw [List.getElem?_reverse (by omega)]
      have : l.length - 1 - j = m - (j + 1) := by omega
      rw [this, List.getElem?_eq_getElem (by omega)]
      unfold gd
      rw [List.getD_eq_getElem?_getD, List.getElem?_eq_getElem (by omega)]
      rfl
    rw [hg]
    unfold textStep
    rcases Nat.eq_zero_or_pos j with e0 | e0
    · subst e0
      rw [if_neg (by omega)]
      simp [textH]
    · rw [if_pos (by omega)]
      rw [textH_snoc _ _ (by intro e; have h9 := congrArg List.length e; rw [List.length_take, List.length_reverse, List.length_nil] at h9; omega)]
theorem textTo_all (l : List Nat) (h : Norm l) (hn : l ≠ []) (m : Nat) (hm : m = l.length) : textTo l (upto (bk m) m) = decDigits (val l) := by
  rw [textTo_upto l m hm m (Nat.le_refl _), hm, List.take_of_length_le (by rw [List.length_reverse]; exact Nat.le_refl _)]
  exact textH_norm h hn

/-- What text hands back: the numeral and OK, or nothing and ErrInteger. -/
def tText (z : Int) : List UInt8 := if Fits z then itoa z else []
def tErr (z : Int) : Int := if Fits z then 0 else 30
attribute [local go_sem] Oper.semAt_some
theorem repeat_zeros : ∀ c, Lib.repeatL [48] c = List.replicate c 48
  | 0 => rfl
  | c + 1 => by rw [Lib.repeatL, repeat_zeros c]; rfl
theorem itoa_group (d : Nat) (hd : d < 10000) (w W : World) (htab : Lib.TabIs Tryz.prog w "internal/strconv.uint64pow10" .u64 Lib.pow10Tab) (hB : Below w.heap.size w W) :
    Calls Tryz.prog 177 #[.int .i64 (d : Int)] W fun e W' => e = .returned (.string ⟨(decDigits d).toArray⟩) ∧ Below W.heap.size W W' := by
  refine (Tryz.strconv_Itoa (d : Int) (by omega) (by omega) W (tabBelow_of_tabIs htab W hB)).mono ?_
  rintro e W' ⟨rfl, k, os, rfl⟩
  exact ⟨by rw [itoa_nn], below_grown_sl _ _ _ _ (Nat.le_refl _)⟩
/-- What holds between two rounds. -/
structure TextI (w : World) (A : Option Addr) (n c : Nat) (neg : Bool) (l : List Nat) (pre : List (Place n)) (W : World) : Prop where
  x : W.heap[w.heap.size]? = some (.cells #[.bool neg, .slice A n c] 137 (0, 0))
  s : Boxed W (w.heap.size + 1 + 1) 135 (.slice A n c)
  b : Lib.IsBuilderF 183 5 (w.heap.size + 1) (w.heap.size + 1) (Lib.byteCells (textTo l pre)) W
  below : Below w.heap.size w W
theorem textI_own (w : World) (A : Option Addr) (n c : Nat) (neg : Bool) (l : List Nat) (Bl : Nat) (hBl : w.heap.size ≤ Bl) : OwnFrom Bl (TextI w A n c neg l) := by
  intro pre X Y row hs hg hr
  have hr' : ∀ r, row = some r → ∃ o : Obj, X.heap[r]? = some o ∧ o.isCells = false := fun r e => (hr r e).2
  obtain ⟨h1, h2, h3, h4⟩ := hs
  have hlt : ∀ {b : Nat} {cs : Array Value} {t : TypeId} {f : Nat × Nat}, X.heap[b]? = some (.cells cs t f) → b < X.heap.size := fun h => (Array.getElem?_eq_some_iff.1 h).1
  exact ⟨(hg.block _ (hlt h1) (boxed_key hr' h1)).trans h1, h2.kept hg (boxed_key hr' h2), builder_keep h3 (fun k cs t f hk => (hg.block _ (hlt hk) (boxed_key hr' hk)).trans hk), h4.grown hg h4.size (fun k e => Nat.le_trans hBl (hr k e).1)⟩
theorem text_round {w : World} {A : Option Addr} {n c : Nat} {neg : Bool} {l : List Nat} {pre : List (Place n)} {i : Place n} {W W2 W3 : World} {st : List UInt8} (hI : TextI w A n c neg l pre W) (hB12 : Below W.heap.size W W2)
    (hbd3 : Lib.BuilderAtF 183 5 (w.heap.size + 1) (w.heap.size + 1) (.pointer (some ⟨w.heap.size + 1, 0, none⟩)) (Lib.byteCells (textTo l pre) ++ Lib.strCells ⟨st.toArray⟩) W3) (hb3 : Below (w.heap.size + 1) W2 W3)
    (ho3 : Lib.OthersKept 5 (some (w.heap.size + 1)) W2 W3) (hst : textTo l (pre ++ [i]) = textTo l pre ++ st) :
    (∀ D, KeepsFrom D W W3) ∧ KpB w.heap.size (w.heap.size + 1 + 1) W W3 ∧ TextI w A n c neg l (pre ++ [i]) W3 := by
  obtain ⟨hX, hS, hBd, hB⟩ := hI
  have hlt : ∀ {b : Nat} {o : Obj}, W.heap[b]? = some o → b < W.heap.size := fun h => (Array.getElem?_eq_some_iff.1 h).1
  have hbb : ∃ p v, W2.heap[w.heap.size + 1]? = some (.cells #[p, v] 183 (0, 0)) := by
    rcases hBd with ⟨_, v, hb, _⟩ | ⟨_, v, hb, _⟩
    · exact ⟨_, v, (hB12.block _ (hlt hb)).trans hb⟩
    · exact ⟨_, v, (hB12.block _ (hlt hb)).trans hb⟩
  have hS2 : W2.heap[w.heap.size + 1 + 1]? = some (.cells #[.slice A n c] 135 (0, 0)) := (hB12.block _ (hlt hS)).trans hS
  have hS3 : W3.heap[w.heap.size + 1 + 1]? = some (.cells #[.slice A n c] 135 (0, 0)) := ho3 _ _ hS2 (fun e => by injection e; omega) (fun c fz e => by injection e with _ h _; exact absurd h (by decide))
  have hX2 := (hB12.block _ (hlt hX)).trans hX
  have hlX := hlt hX
  have hs12 := hB12.size
  refine ⟨fun D => (keepsFrom_of_below hB12).trans ⟨hb3.size, fun k o _ hk ho => ho3 k o hk (fun e => ?_) (fun c fz e => by subst e; cases ho)⟩, (KpB.of_below hB12 (by omega) (hlt hS)).trans ⟨hb3.mono (by omega), hS3.trans hS2.symm⟩, (hb3.block _ (by omega)).trans hX2, hS3, ?_, (hB.trans (hB12.mono hB.size)).trans (hb3.mono (by omega))⟩
  · obtain rfl : k = w.heap.size + 1 := by injection e
    obtain ⟨p, v, hp⟩ := hbb
    rw [hp] at hk
    cases hk
    cases ho
  · rw [hst, Lib.byteCells_append]
    exact .inr hbd3
set_option maxRecDepth 100000 in
set_option maxHeartbeats 2000000 in
theorem text_any (v : Value) (neg : Bool) (x : Nat) (w : World) (hv : IsSig w v neg x) (hx : x < 10000 ^ 250) (htab : Lib.TabIs Tryz.prog w "internal/strconv.uint64pow10" .u64 Lib.pow10Tab) :
    Calls Tryz.prog 126 #[v] w fun e w' => e = .returned (.tuple #[.string ⟨(tText (sv neg x)).toArray⟩, .int .i64 (tErr (sv neg x))]) ∧ Below w.heap.size w w' := by
  obtain ⟨A, n, c, rfl, hn⟩ := hv
  have hn1 := hn.le hx
  have hn0 := hn.zero
  clear hx
  have hb0 : (w.alloc (.cells #[.bool neg, .slice A n c] 137)).heap[w.heap.size]? = some (.cells #[.bool neg, .slice A n c] 137 (0, 0)) := heap_alloc_new _ _
  obtain ⟨c1, c2, _, _⟩ := two_facts hb0
  refine (callsIn_wide (n := 3)).1 ?_
  refine callsIn_of_wp_marks Tryz.func126 rfl trivial ?_ rfl
  simp only [Tryz.ntmps126, List.size_toArray, List.length_cons, List.length_nil, Nat.reduceAdd, Nat.reduceSub, Array.replicate_succ, Array.replicate_zero, List.push_toArray, List.append_toArray, List.nil_append, List.cons_append]
  by_cases hz : x = 0
  · have hn00 : n = 0 := hn0.2 hz
    subst hn00
    gi_wp2
    have hzz : tText (sv neg 0) = [48] ∧ tErr (sv neg 0) = 0 := by
      have e : sv neg 0 = 0 := by cases neg <;> rfl
      rw [e]
      exact ⟨by unfold tText; rw [if_pos (by unfold Fits; decide)]; rw [show (0 : Int) = ((0 : Nat) : Int) from rfl, itoa_nn, decDigits_zero], by unfold tErr; rw [if_pos (by unfold Fits; decide)]⟩
    subst hz
    rw [hzz.1, hzz.2]
    refine ⟨_, ?res0, rfl, (Below.refl _ w).alloc (Nat.le_refl _) _⟩
    case res0 => simp [results, Tryz.f126, go_sem]
  · have hnp : 0 < n := by
      rcases Nat.eq_zero_or_pos n with e | e
      · exact absurd (hn0.1 e) hz
      · exact e
    have hne : ¬ ((n : Int) = 0) := by omega
    gi_wp2_with (refine ⟨trivial, ?_⟩; gi_at_call 169; refine (back_in _ _ _ _ _).mono ?_; rintro e w' ⟨rfl, rfl⟩)
    obtain ⟨l, hl, nl, vl, hnc⟩ := hn
    have hln := Lib.hid hl.len
    have hI0 : TextI w A n c neg l [] (((w.alloc (.cells #[.bool neg, .slice A n c] 137)).alloc (.cells #[.pointer none, .slice none 0 0] 183)).alloc (.cells #[.slice A n c] 135)) := by
      have e1 : w.heap.size + 1 = (w.alloc (.cells #[.bool neg, .slice A n c] 137)).heap.size := by simp
      have e2 : w.heap.size + 1 + 1 = ((w.alloc (.cells #[.bool neg, .slice A n c] 137)).alloc (.cells #[.pointer none, .slice none 0 0] 183)).heap.size := by simp
      refine ⟨?_, ?_, .inl ⟨Nat.le_refl _, .slice none 0 0, ?_, ?_, by simp [Value.ownBlock]⟩, (((Below.refl _ w).alloc (Nat.le_refl _) _).alloc (by simp) _).alloc (by simp; omega) _⟩
      · rw [Below.heap_alloc _ _ _ (by simp; omega), Below.heap_alloc _ _ _ (by simp)]
        exact hb0
      · rw [e2]; exact Boxed.new _ _ _
      · rw [Below.heap_alloc _ _ _ (by simp), e1]
        exact heap_alloc_new _ _
      · simpa [textTo, Lib.byteCells] using World.ownsRowF_nil _ _ _ _
    generalize (((w.alloc (.cells #[.bool neg, .slice A n c] 137)).alloc (.cells #[.pointer none, .slice none 0 0] 183)).alloc (.cells #[.slice A n c] 135)) = W0 at *
    have hs2 : w.heap.size + 1 + 1 < W0.heap.size := hI0.s.lt
    have htW : ∀ W, Below w.heap.size w W → Lib.TabIs Tryz.prog W "internal/strconv.uint64pow10" .u64 Lib.pow10Tab := fun W hW => tabBelow_of_tabIs htab W hW
    refine wpIn_rangeFunc_ownG rfl (by omega) (gf := 198) (lb := #[.pointer (some ⟨w.heap.size + 1 + 1, 0, none⟩)]) rfl trivial (enters_of Tryz.func198 (by kernel_rfl) rfl)
      (back_stops 2 (by omega) (w.heap.size + 1 + 1) w.heap.size A n c l (by omega) _ (by omega) (by omega) hI0.s.cell (Reads.keep hl fun p hp => hI0.below.cell hp)) KpB.trans (KpB.book (by omega) (by omega)) (Below.refl _ _) (fun _ => rfl)
      (TextI w A n c neg l) (fun _ _ _ => False) (textI_own _ _ _ _ _ _ _ (by omega)) (fun _ _ _ _ _ hs _ _ => hs) hI0
      ?a1 ?assign ?body ?done ?stop
    case assign =>
      intro q x W K hK
      gi_wp2
      exact hK
    case body =>
      rintro q pre i W hI hlt
      have hiv : i.1 < n := by have := i.2; omega
      have hd1 := nl.1.gd_lt i.1
      obtain ⟨hX, hS, hBd, hB⟩ := hI
      obtain ⟨d1, d2, _, _⟩ := two_facts hX
      have hk4 : (decDigits (gd l i.1)).length ≤ 4 := (dec_lt (gd l i.1) 4 (by decide)).2 hd1
      have hIt := fun W' hB' => itoa_group (gd l i.1) hd1 w W' htab hB'
      have hpad : Lib.repeatL [48] (4 - (decDigits (gd l i.1)).length) ++ decDigits (gd l i.1) = pad4 (gd l i.1) := by rw [repeat_zeros]; rfl
      have hstep : textTo l (pre ++ [i]) = textTo l pre ++ (if i.1 + 1 < l.length then pad4 (gd l i.1) else decDigits (gd l i.1)) := by rw [textTo_snoc]; rfl
      have hlen := textTo_len l nl.1 pre
      generalize hdg : decDigits (gd l i.1) = dg at *
      have hpd4 : (pad4 (gd l i.1)).length = 4 := pad4_length hd1
      generalize hpd : pad4 (gd l i.1) = pd at *
      have hrl : (Lib.repeatL [48] (4 - dg.length)).length + dg.length = 4 := by
        have := congrArg List.length hpad
        rw [List.length_append] at this
        omega
      have hap : (({ data := (Lib.repeatL [48] (4 - dg.length)).toArray } : ByteArray) ++ { data := dg.toArray }) = ⟨pd.toArray⟩ := by
        apply ba_ext
        rw [← hpad]
        simp [ByteArray.data_append]
      have hw4 := Lib.hid (show (4 - (dg.length : Int)) = ((4 - dg.length : Nat) : Int) by omega)
      by_cases hil : i.1 + 1 < n
      · have hil' : (i.1 : Int) < (n : Int) - 1 := by omega
        gi_wp2_with (first
          | (refine ⟨trivial, ?_⟩; gi_at_call 177; go_must (refine (CallsIn.inRound q (callsIn_wide.2 (hIt _ hB))).mono ?_; rintro e1 W1 ⟨rfl, hb1⟩; have hX1 := (hb1.block _ (Array.getElem?_eq_some_iff.1 hX).1).trans hX; obtain ⟨d3, d4, _, _⟩ := two_facts hX1))
          | (refine ⟨trivial, ?_⟩; gi_at_call 155; go_must (rw [hw4.out]; refine (CallsIn.inRound q (callsIn_wide.2 (Tryz.strings_Repeat ⟨#[48]⟩ (4 - dg.length) _ (by omega) (by simp [ByteArray.size]; omega)))).mono ?_; rintro e1 W2 ⟨rfl, hb2⟩; have hB2 := hB.trans ((hb1.trans (hb2.mono hb1.size)).mono hB.size)))
          | (refine ⟨trivial, ?_⟩; gi_at_call 178; go_must (refine (CallsIn.inRound q (callsIn_wide.2 (write_string (w.heap.size + 1) (w.heap.size + 1) (Lib.byteCells (textTo l pre)) ⟨pd.toArray⟩ _ (builder_keep hBd (fun k cs t f hk => ((hb1.trans (hb2.mono hb1.size)).block k (Array.getElem?_eq_some_iff.1 hk).1).trans hk)) (by rw [Lib.byteCells_length]; simp [ByteArray.size]; omega) (by have := hB2.size; have := hb2.size; have := hb1.size; have := hS.lt; omega)))).mono ?_; rintro e1 W3 ⟨rfl, hbd3, hb3, ho3⟩)))
        obtain ⟨r1, r2, r3⟩ := text_round (i := i) ⟨hX, hS, hBd, hB⟩ (hb1.trans (hb2.mono hb1.size)) hbd3 hb3 ho3 (by rw [hstep, if_pos (by have := hln.out; omega)])
        exact ⟨r1 _, r2, r3⟩
      · have hil' : ¬ (i.1 : Int) < (n : Int) - 1 := by omega
        gi_wp2_with (first
          | (refine ⟨trivial, ?_⟩; gi_at_call 177; go_must (refine (CallsIn.inRound q (callsIn_wide.2 (hIt _ hB))).mono ?_; rintro e1 W1 ⟨rfl, hb1⟩; have hX1 := (hb1.block _ (Array.getElem?_eq_some_iff.1 hX).1).trans hX; obtain ⟨d3, d4, _, _⟩ := two_facts hX1; have hB2 := hB.trans (hb1.mono hB.size)))
          | (refine ⟨trivial, ?_⟩; gi_at_call 178; go_must (refine (CallsIn.inRound q (callsIn_wide.2 (write_string (w.heap.size + 1) (w.heap.size + 1) (Lib.byteCells (textTo l pre)) ⟨dg.toArray⟩ _ (builder_keep hBd (fun k cs t f hk => (hb1.block k (Array.getElem?_eq_some_iff.1 hk).1).trans hk)) (by rw [Lib.byteCells_length]; simp [ByteArray.size]; omega) (by have := hb1.size; have := hS.lt; omega)))).mono ?_; rintro e1 W3 ⟨rfl, hbd3, hb3, ho3⟩)))
        obtain ⟨r1, r2, r3⟩ := text_round (i := i) ⟨hX, hS, hBd, hB⟩ hb1 hbd3 hb3 ho3 (by rw [hstep, if_neg (by have := hln.out; omega)])
        exact ⟨r1 _, r2, r3⟩
    case done =>
      rintro D ys W hD rfl hI hK
      have htx := textTo_all l nl (by intro e; have := hln.out; rw [e] at this; simp at this; omega) n hln.out
      obtain ⟨hX, hS, hBd, hB⟩ := hI
      rw [htx, vl] at hBd
      obtain ⟨d1, d2, _, _⟩ := two_facts hX
      have hdl := dec_lt x 200 (by decide)
      clear htx
      have hfx : Fits (sv neg x) ↔ x < 10 ^ 200 := by
        have : (sv neg x).natAbs = x := by cases neg <;> simp [sv]
        unfold Fits
        rw [this]
      by_cases hfit : (decDigits x).length ≤ 200
      · have hF := hfx.2 (hdl.1 hfit)
        have hv1 : tText (sv neg x) = itoa (sv neg x) ∧ tErr (sv neg x) = 0 := ⟨by unfold tText; rw [if_pos hF], by unfold tErr; rw [if_pos hF]⟩
        cases neg with
        | true =>
          have he : itoa (sv true x) = 45 :: decDigits x := by simp only [sv, if_true]; exact itoa_ng x (by omega)
          rw [he] at hv1
          clear hdl hfx hF he
          generalize hdx : decDigits x = dx at *
          have HV := Lib.hid hv1
          clear hv1
          have hap : (({ data := #[45] } : ByteArray) ++ { data := dx.toArray }) = ⟨(45 :: dx).toArray⟩ := by
            apply ba_ext
            simp [ByteArray.data_append]
          gi_wp2_with (refine ⟨trivial, ?_⟩; gi_at_call 179; go_must (refine (callsIn_wide.2 (Tryz.Builder_String_any_k (w.heap.size + 1) (w.heap.size + 1) dx _ hBd (by have := hS.lt; omega))).mono ?_; rintro e1 W3 ⟨rfl, hbd3, hb3, ho3⟩; have hX3 := (hb3.block _ (by omega)).trans hX; obtain ⟨d3, d4, _, _⟩ := two_facts hX3))
          have hKD : W3.heap[D]? = some (.deferred (some [])) := ho3 D _ hK (fun e => by injection e; omega) (fun c fz e => by cases e)
          have hB4 : Below w.heap.size w (W3.putObj D (.deferred none)) := (hB.trans (hb3.mono (by omega))).trans (belowK_b (w := w) (Nat.le_refl _) W3 D _ _ (by omega) hKD rfl rfl)
          refine ⟨by simp, .inl ⟨_, _, rfl, run_takeDeferred hKD, ?_⟩⟩
          refine ⟨.tuple #[.string ⟨(45 :: dx).toArray⟩, .int .i64 0], ?res1, ?val, hB4⟩
          case res1 => simp [results, Tryz.f126, go_sem]; first | done | rfl
          case val => rw [HV.out.1, HV.out.2]
        | false =>
          have he : itoa (sv false x) = decDigits x := by simp only [sv]; exact itoa_nn x
          rw [he] at hv1
          clear hdl hfx hF he
          generalize hdx : decDigits x = dx at *
          have HV := Lib.hid hv1
          clear hv1
          gi_wp2_with (refine ⟨trivial, ?_⟩; gi_at_call 179; go_must (refine (callsIn_wide.2 (Tryz.Builder_String_any_k (w.heap.size + 1) (w.heap.size + 1) dx _ hBd (by have := hS.lt; omega))).mono ?_; rintro e1 W3 ⟨rfl, hbd3, hb3, ho3⟩; have hX3 := (hb3.block _ (by omega)).trans hX; obtain ⟨d3, d4, _, _⟩ := two_facts hX3))
          have hKD : W3.heap[D]? = some (.deferred (some [])) := ho3 D _ hK (fun e => by injection e; omega) (fun c fz e => by cases e)
          have hB4 : Below w.heap.size w (W3.putObj D (.deferred none)) := (hB.trans (hb3.mono (by omega))).trans (belowK_b (w := w) (Nat.le_refl _) W3 D _ _ (by omega) hKD rfl rfl)
          refine ⟨by simp, .inl ⟨_, _, rfl, run_takeDeferred hKD, ?_⟩⟩
          refine ⟨.tuple #[.string ⟨dx.toArray⟩, .int .i64 0], ?res1, ?val, hB4⟩
          case res1 => simp [results, Tryz.f126, go_sem]; first | done | rfl
          case val => rw [HV.out.1, HV.out.2]
      · have hF : ¬ Fits (sv neg x) := fun h => hfit (hdl.2 (hfx.1 h))
        have hv1 : tText (sv neg x) = [] ∧ tErr (sv neg x) = 30 := ⟨by unfold tText; rw [if_neg hF], by unfold tErr; rw [if_neg hF]⟩
        have HV := Lib.hid hv1
        clear hdl hfx hF hv1
        generalize hdx : decDigits x = dx at *
        have hfit' : 200 < dx.length := by omega
        gi_wp2_with (refine ⟨trivial, ?_⟩; gi_at_call 179; go_must (refine (callsIn_wide.2 (Tryz.Builder_String_any_k (w.heap.size + 1) (w.heap.size + 1) dx _ hBd (by have := hS.lt; omega))).mono ?_; rintro e1 W3 ⟨rfl, hbd3, hb3, ho3⟩; have hX3 := (hb3.block _ (by omega)).trans hX; obtain ⟨d3, d4, _, _⟩ := two_facts hX3))
        have hKD : W3.heap[D]? = some (.deferred (some [])) := ho3 D _ hK (fun e => by injection e; omega) (fun c fz e => by cases e)
        have hB4 : Below w.heap.size w (W3.putObj D (.deferred none)) := (hB.trans (hb3.mono (by omega))).trans (belowK_b (w := w) (Nat.le_refl _) W3 D _ _ (by omega) hKD rfl rfl)
        refine ⟨by simp, .inl ⟨_, _, rfl, run_takeDeferred hKD, ?_⟩⟩
        refine ⟨.tuple #[.string ⟨#[]⟩, .int .i64 30], ?res1, ?val, hB4⟩
        case res1 => simp [results, Tryz.f126, go_sem]; first | done | rfl
        case val => rw [HV.out.1, HV.out.2]
    case stop =>
      rintro D cd pre W hD _ h
      exact h.elim
end Go.Proofs.YtngohpgkceedeaaGreatDoor
