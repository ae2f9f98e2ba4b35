/-
  The reference implementation: trim, text and Made.
-/
import Derived.Test.YtnfkibgoockmpaaGreatDoorFold
import Derived.Test.YtnfkibgoockmpaaGreatDoorPlain3
import Derived.Deep.RegionHeld3
import Derived.Deep.DeepMust
import Derived.Laws.BytesArg
import Derived.Lib.UnsafeStr
import Derived.IntWalk
namespace Go.Proofs.YtnfkibgoockmpaaGreatDoor
open Go Go.RowKit Go.Lib

theorem trim_take {l : List Nat} {k : Nat} : (0 < k → l.getD (k - 1) 0 ≠ 0) → (∀ j, k ≤ j → l.getD j 0 = 0) → Small10 l → k ≤ l.length → Norm10 (l.take k) ∧ val10 (l.take k) = val10 l :=
  fun h1 h2 h3 h4 => ⟨norm10_take h3 k h4 h1, val10_zeros l k h2⟩
set_option maxHeartbeats 400000 in
/-- trim: zeros at the end are left out. -/
theorem trim_any (A : Option Addr) (n c : Nat) (l : List Nat) (w : World) (h : NumV w A n l) (hn : n ≤ 1000000) (hcap : n ≤ c) (hs : Small10 l) :
    Calls Tryz.prog 37 #[.slice A n c] w fun e w' => (∃ k, e = .returned (.slice A k c) ∧ k ≤ n ∧ NumV w A k (l.take k) ∧ Norm10 (l.take k) ∧ val10 (l.take k) = val10 l) ∧ w' = w := by
  have hl := h.len
  have H := Lib.hid h
  have HL := Lib.hid hl
  clear hl h
  go_enter Tryz.func37, Tryz.ntmps37
  go_wp2
  go_loop [0] (fun v => ∃ k : Nat, k ≤ n ∧ v = .slice A k c ∧ Hid (∀ j, k ≤ j → l.getD j 0 = 0)) (fun v => match v with | .slice _ k _ => k | _ => 0)
  case atStart => exact ⟨n, Nat.le_refl _, rfl, fun j hj => by rw [List.getD_eq_getElem?_getD, List.getElem?_eq_none (by have := HL.out; omega)]; rfl⟩
  case round =>
    obtain ⟨k, hk, rfl, hz⟩ := hrel
    rcases Nat.eq_zero_or_pos k with rfl | hp
    · go_wp2
      go_ret
      obtain ⟨h1, h2⟩ := trim_take (l := l) (k := 0) (fun h => absurd h (by omega)) hz hs (by omega)
      exact ⟨⟨0, rfl, by omega, H.out.take (by omega), h1, h2⟩, rfl⟩
    · obtain ⟨ad, hA, _, hc⟩ := H.out.cell (k - 1) (by omega)
      subst hA
      by_cases h0 : l.getD (k - 1) 0 = 0
      · rw [h0] at hc
        have HZ := Lib.hid h0
        clear h0
        go_wp2
        go_round
        case rel => exact ⟨k - 1, by omega, by first | rfl | go_num, fun j hj => by
          rcases Nat.eq_or_lt_of_le hj with e | e
          · rw [← e]; exact HZ.out
          · exact hz j (by omega)⟩
        case measure => simp; try omega
      · have hb : ((l.getD (k - 1) 0 : Nat) : Int) ≠ 0 := by omega
        generalize hg : ((l.getD (k - 1) 0 : Nat) : Int) = d at *
        have hd : (d == 0) = false := by simpa using hb
        have HB := Lib.hid h0
        have HG := Lib.hid hg
        clear h0 hg hb
        go_wp2
        go_ret
        obtain ⟨h1, h2⟩ := trim_take (l := l) (k := k) (fun _ => HB.out) hz hs (by have := HL.out; omega)
        exact ⟨⟨k, rfl, hk, H.out.take hk, h1, h2⟩, rfl⟩

theorem byteInfo : (Tryz.prog.info? 5).map (fun i => (i.zero, i.size, i.bytes)) = some (some (.int .u8 0), 1, 1) := by kernel_rfl
theorem byteCells_snoc (l : List UInt8) (d : Nat) (hd : d < 256) : byteCells l ++ [.int .u8 (d : Int)] = byteCells (l ++ [UInt8.ofNat d]) := by
  unfold byteCells
  rw [List.map_append]
  congr 1
  simp [Nat.mod_eq_of_lt hd]
/-- A slice of bytes of the call's own, as a string. -/
theorem conv_own {w : World} {base n c : Nat} {A : Option Addr} {bs : List UInt8} (h : w.ownsRow base 5 1 (.slice A n c) n (byteCells bs)) (hn : 0 < n) :
    (convert 72 9 (.slice A n c)).run Tryz.prog w = .ok (.string ⟨bs.toArray⟩) w := by
  obtain ⟨g, cap, hv, _, hlt⟩ := h.form hn
  have hA : A = some ⟨g, 0, none⟩ := by injection hv
  subst hA
  have hl : bs.length = n := by have := h.1; simpa [byteCells] using this
  have hc := h.cells (g := g) rfl
  have := run_convert_bytes_arg (P := Tryz.prog) w 72 5 Tryz.underlying72 Tryz.underlying5 g 0 n c (bs.map fun b => (b.toNat : Int)) (by simpa using hl) (fun i hi => by
    have h1 : (byteCells bs)[i]? = some (.int .u8 ((bs.map fun b => (b.toNat : Int)).getD i 0)) := by
      unfold byteCells
      rw [List.getElem?_map, List.getD_eq_getElem?_getD, List.getElem?_map, List.getElem?_eq_getElem (by omega)]
      rfl
    have h2 := hc i _ h1
    have h3 : (⟨g, 0, none⟩ : Addr).add i = ⟨g, 0 + i, none⟩ := by unfold Addr.add; split <;> simp_all
    rwa [h3] at h2) 9 Tryz.underlying9
  have hs : strOfNums (bs.map fun b => (b.toNat : Int)) = ⟨bs.toArray⟩ := by unfold strOfNums; simp [Function.comp_def]
  rw [this, hs]
/-- What text writes. -/
def tx (neg : Bool) (l : List Nat) : List UInt8 := if l = [] then [48] else if neg then 45 :: txt10 l else txt10 l
def pre (neg : Bool) : List UInt8 := if neg then [45] else []
theorem tx_pre (neg : Bool) {l : List Nat} (h : l ≠ []) : tx neg l = pre neg ++ txt10 l := by unfold tx pre; rw [if_neg h]; cases neg <;> simp
theorem txt10_take (l : List Nat) (m : Nat) (hm : m < l.length) : (txt10 l).take (l.length - m) = (txt10 l).take (l.length - (m + 1)) ++ [UInt8.ofNat (48 + l.getD m 0)] := by
  have hlen : (txt10 l).length = l.length := by simp [txt10]
  rw [show l.length - m = (l.length - (m + 1)) + 1 by omega, List.take_succ_eq_append_getElem (by omega)]
  congr 2
  unfold txt10
  rw [List.getElem_map, List.getElem_reverse, List.getD_eq_getElem?_getD, List.getElem?_eq_getElem hm]
  simp only [Option.getD_some]
  congr 3
  omega
theorem tx_itoa (neg : Bool) {l : List Nat} (h : Norm10 l) : tx neg l = itoa (if neg then -(val10 l : Int) else val10 l) := by
  by_cases hn : l = []
  · subst hn
    unfold tx
    rw [if_pos rfl]
    cases neg <;> simp [val10] <;> (rw [show (0 : Int) = ((0 : Nat) : Int) from rfl, itoa_nn, decDigits_zero])
  · unfold tx
    rw [if_neg hn, txt10_norm h hn]
    cases neg
    · simp [itoa_nn]
    · simp [itoa_ng _ (h.val_pos hn)]

def TextOk (neg : Bool) (n : Nat) (l : List Nat) (w : World) (e : Ending) (w' : World) : Prop := e = .returned (.tuple #[.string ⟨(tx neg l).toArray⟩, .bool (decide ((n : Int) ≤ 200))]) ∧ Below w.heap.size w w'
set_option maxRecDepth 100000 in
set_option maxHeartbeats 1000000 in
theorem rtext_any (neg : Bool) (A : Option Addr) (n c : Nat) (l : List Nat) (w : World) (h : NumV w A n l) (hn : n ≤ 1000000) (hs : Small10 l) :
    Calls Tryz.prog 36 #[.bool neg, .slice A n c] w (TextOk neg n l w) := by
  have hl := Lib.hid h.len
  obtain ⟨i0, hi, hz0, hz1, hz2⟩ := info_parts byteInfo
  rcases Nat.eq_zero_or_pos n with h0 | h0
  · subst h0
    have hl0 : l = [] := List.length_eq_zero_iff.1 (by have := hl.out; omega)
    subst hl0
    go_enter Tryz.func36, Tryz.ntmps36
    go_wp2
    go_ret2
    exact ⟨rfl, Below.refl _ _⟩
  · have hne : ((n : Int) == 0) = false := by simp; omega
    have hl1 : l ≠ [] := by intro e; rw [e] at hl; have := hl.out; simp at this; omega
    have H := Lib.hid h
    have HL1 := Lib.hid hl1
    clear h hl1
    cases neg
    · go_enter Tryz.func36, Tryz.ntmps36
      go_wp2
      go_loopw [6, 7] (fun v i wr => ∃ (x : Int) (m k : Nat) (B : Option Addr) (c' : Nat), Hid (x + 1 = m) ∧ m ≤ n ∧ k + m ≤ n + 1 ∧ -1 ≤ x ∧ x < n ∧ i = .int .i64 x ∧ v = .slice B k c' ∧ wr.ownsRow w.heap.size 5 1 (.slice B k c') k (byteCells (pre false ++ (txt10 l).take (n - m))) ∧ Below w.heap.size w wr)
        (fun _ i _ => (intOf i + 1).toNat)
      case atStart => exact ⟨(n : Int) - 1, n, 0, none, 0, by show _ = _; omega, Nat.le_refl _, by omega, by omega, by omega, rfl, rfl, by rw [Nat.sub_self]; exact World.ownsRow_nil _ _ _ _, Below.refl _ _⟩
      case round =>
        obtain ⟨x, m, k, B, c', hxm, hmn, hkm, hx1, hxn, rfl, rfl, hown, hB⟩ := hrel
        by_cases hx : 0 ≤ x
        · obtain ⟨q, rfl⟩ : ∃ q : Nat, x = (q : Int) := ⟨x.toNat, by omega⟩
          obtain rfl : m = q + 1 := by have := hxm.out; omega
          have hqn : q < n := by omega
          obtain ⟨ad, hA, hblt, hcw⟩ := H.out.cell q hqn
          subst hA
          have hcell : wr.cell? (ad.add q) = some (.int .i64 ((l.getD q 0 : Nat) : Int)) := (hB.cell (by rw [block_of_add]; exact hblt)).trans hcw
          have hd : l.getD q 0 < 10 := hs.get q
          have hstep := Lib.hid (txt10_take l q (by have := hl.out; omega))
          generalize l.getD q 0 = d at *
          have hd1 : (d : Int) < 10 := by omega
          have hd0 : (0 : Int) ≤ d := by omega
          clear hcw hblt hx
          go_wp2_with (at_builtin; refine wpList_append_own _ rfl (.tmp 22) (.tmp 29) 72 rfl w.heap.size 5 i0 (.int .u8 0) 1 1 Tryz.underlying72 hi hz0 hz1 hz2 rfl (by decide) (.slice B k c') k _ rfl (hown.alloc _) ⟨wr.heap.size, 0, none⟩ 1 1 [.int .u8 (48 + d)] rfl rfl (cell_one_new _ _ _) (by simp [Value.oneCell']) (by unfold maxLen; omega) (by omega) (by have := hB.size; simp; omega) ?_; intro v' w3 hown3 hgrow3 _; obtain ⟨A3, c3, rfl⟩ := own_slice hown3)
          have hcast : ((48 + d : Nat) : Int) = 48 + (d : Int) := by omega
          have hB3 := (hB.alloc hB.size _).grown hgrow3 (by have := hB.size; simp; omega) (own_ge hown)
          have hown4 : w3.ownsRow w.heap.size 5 1 (.slice A3 (k + 1) c3) (k + 1) (byteCells (pre false ++ (txt10 l).take (n - q))) := by
            have hq := hstep.out
            rw [← hl.out] at hq
            rw [hq, ← List.append_assoc, ← byteCells_snoc _ _ (by omega), hcast]
            exact hown3
          go_roundw
          case rel => exact ⟨(q : Int) - 1, q, k + 1, A3, c3, by show _ = _; omega, by omega, by omega, by omega, by omega, rfl, rfl, hown4, hB3⟩
          case measure => simp [intOf]
        · have hx' : x < 0 := by omega
          obtain rfl : m = 0 := by have := hxm.out; omega
          have ht : (txt10 l).take (n - 0) = txt10 l := List.take_of_length_le (by have := hl.out; simp [txt10]; omega)
          rw [ht, ← tx_pre false HL1.out] at hown
          have hk0 : 0 < k := by
            have h1 := hown.1
            have h2 : 0 < (tx false l).length := by rw [tx_pre _ HL1.out]; have := hl.out; simp [txt10]; omega
            simp [byteCells] at h1
            omega
          have hcv := conv_own hown hk0
          clear ht hk0 hx
          go_wp2
          go_ret2
          exact ⟨rfl, hB⟩
    · go_enter Tryz.func36, Tryz.ntmps36
      go_wp2_with (at_builtin; refine wpList_append_own _ rfl (.tmp 12) (.tmp 13) 72 rfl w.heap.size 5 i0 (.int .u8 0) 1 1 Tryz.underlying72 hi hz0 hz1 hz2 rfl (by decide) (.slice none 0 0) 0 [] rfl ((World.ownsRow_nil w _ _ _).alloc _) ⟨w.heap.size, 0, none⟩ 1 1 [.int .u8 45] rfl rfl (cell_one_new _ _ _) (by simp [Value.oneCell']) (by unfold maxLen; omega) (by omega) (by simp) ?_; intro v' w2 hown2 hgrow2 _; obtain ⟨A2, c2, rfl⟩ := own_slice hown2)
      go_loopw [6, 7] (fun v i wr => ∃ (x : Int) (m k : Nat) (B : Option Addr) (c' : Nat), Hid (x + 1 = m) ∧ m ≤ n ∧ k + m ≤ n + 1 ∧ -1 ≤ x ∧ x < n ∧ i = .int .i64 x ∧ v = .slice B k c' ∧ wr.ownsRow w.heap.size 5 1 (.slice B k c') k (byteCells (pre true ++ (txt10 l).take (n - m))) ∧ Below w.heap.size w wr)
        (fun _ i _ => (intOf i + 1).toNat)
      case atStart => exact ⟨(n : Int) - 1, n, 1, A2, c2, by show _ = _; omega, Nat.le_refl _, by omega, by omega, by omega, rfl, rfl, by rw [Nat.sub_self]; exact hown2, ((Below.refl _ _).alloc (Nat.le_refl _) _).grown hgrow2 (by simp) (by simp [Value.ownBlock])⟩
      case round =>
        obtain ⟨x, m, k, B, c', hxm, hmn, hkm, hx1, hxn, rfl, rfl, hown, hB⟩ := hrel
        by_cases hx : 0 ≤ x
        · obtain ⟨q, rfl⟩ : ∃ q : Nat, x = (q : Int) := ⟨x.toNat, by omega⟩
          obtain rfl : m = q + 1 := by have := hxm.out; omega
          have hqn : q < n := by omega
          obtain ⟨ad, hA, hblt, hcw⟩ := H.out.cell q hqn
          subst hA
          have hcell : wr.cell? (ad.add q) = some (.int .i64 ((l.getD q 0 : Nat) : Int)) := (hB.cell (by rw [block_of_add]; exact hblt)).trans hcw
          have hd : l.getD q 0 < 10 := hs.get q
          have hstep := Lib.hid (txt10_take l q (by have := hl.out; omega))
          generalize l.getD q 0 = d at *
          have hd1 : (d : Int) < 10 := by omega
          have hd0 : (0 : Int) ≤ d := by omega
          clear hcw hblt hx
          go_wp2_with (at_builtin; refine wpList_append_own _ rfl (.tmp 22) (.tmp 29) 72 rfl w.heap.size 5 i0 (.int .u8 0) 1 1 Tryz.underlying72 hi hz0 hz1 hz2 rfl (by decide) (.slice B k c') k _ rfl (hown.alloc _) ⟨wr.heap.size, 0, none⟩ 1 1 [.int .u8 (48 + d)] rfl rfl (cell_one_new _ _ _) (by simp [Value.oneCell']) (by unfold maxLen; omega) (by omega) (by have := hB.size; simp; omega) ?_; intro v' w3 hown3 hgrow3 _; obtain ⟨A3, c3, rfl⟩ := own_slice hown3)
          have hcast : ((48 + d : Nat) : Int) = 48 + (d : Int) := by omega
          have hB3 := (hB.alloc hB.size _).grown hgrow3 (by have := hB.size; simp; omega) (own_ge hown)
          have hown4 : w3.ownsRow w.heap.size 5 1 (.slice A3 (k + 1) c3) (k + 1) (byteCells (pre true ++ (txt10 l).take (n - q))) := by
            have hq := hstep.out
            rw [← hl.out] at hq
            rw [hq, ← List.append_assoc, ← byteCells_snoc _ _ (by omega), hcast]
            exact hown3
          go_roundw
          case rel => exact ⟨(q : Int) - 1, q, k + 1, A3, c3, by show _ = _; omega, by omega, by omega, by omega, by omega, rfl, rfl, hown4, hB3⟩
          case measure => simp [intOf]
        · have hx' : x < 0 := by omega
          obtain rfl : m = 0 := by have := hxm.out; omega
          have ht : (txt10 l).take (n - 0) = txt10 l := List.take_of_length_le (by have := hl.out; simp [txt10]; omega)
          rw [ht, ← tx_pre true HL1.out] at hown
          have hk0 : 0 < k := by
            have h1 := hown.1
            have h2 : 0 < (tx true l).length := by rw [tx_pre _ HL1.out]; have := hl.out; simp [txt10]; omega
            simp [byteCells] at h1
            omega
          have hcv := conv_own hown hk0
          clear ht hk0 hx
          go_wp2
          go_ret2
          exact ⟨rfl, hB⟩

theorem digits_of (l : List UInt8) (k : Nat) (h : k ≤ l.length) : Small10 ((l.take k).map fun c => c.toNat % 10) ∧ ((l.take k).map fun c => c.toNat % 10).length = k := by
  refine ⟨fun d hd => ?_, by simp; omega⟩
  obtain ⟨c, _, rfl⟩ := List.mem_map.1 hd
  exact Nat.mod_lt _ (by decide)
theorem trim_zero (A : Option Addr) (c : Nat) (w : World) : Calls Tryz.prog 37 #[.slice A 0 c] w fun e w' => e = .returned (.slice A 0 c) ∧ w' = w := by
  refine (trim_any A 0 c [] w NumV.nil (by omega) (by omega) small10_nil).mono ?_
  rintro e w' ⟨⟨k, rfl, hk, _⟩, rfl⟩
  obtain rfl : k = 0 := by omega
  exact ⟨rfl, rfl⟩
theorem rtext_zero (neg : Bool) (A : Option Addr) (c : Nat) (w : World) : Calls Tryz.prog 36 #[.bool neg, .slice A 0 c] w fun e w' => e = .returned (.tuple #[.string ⟨#[48]⟩, .bool true]) ∧ w' = w := by
  go_enter Tryz.func36, Tryz.ntmps36
  go_wp2
  go_ret2
  exact ⟨rfl, rfl⟩
theorem below_undrew {W W' : World} (h : Below W.drew.heap.size W.drew W') : Below W.heap.size W W' := ⟨h.os, h.tape, h.output, h.size, h.block⟩
def MadeOk (most : Nat) (w : World) (e : Ending) (w' : World) : Prop := ∃ z, e = .returned (.string (S z)) ∧ Dig most z ∧ Below w.heap.size w w'
theorem madeOk_of {most n k : Nat} {neg : Bool} {l : List Nat} {w w' : World} (hl : Norm10 (l.take k)) (hn : l.length = n) (hnm : n ≤ most) (hb : Below w.heap.size w w') :
    MadeOk most w (.returned (.string ⟨(tx neg (l.take k)).toArray⟩)) w' := by
  refine ⟨if neg then -(val10 (l.take k) : Int) else val10 (l.take k), by rw [tx_itoa neg hl]; rfl, ?_, hb⟩
  have h1 := val10_lt hl.1
  have h2 : (10 : Nat) ^ (l.take k).length ≤ 10 ^ most := Nat.pow_le_pow_right (by decide) (by rw [List.length_take]; omega)
  unfold Dig
  split <;> omega
set_option maxRecDepth 100000 in
set_option maxHeartbeats 2000000 in
theorem made_any (s : ByteArray) (most : Nat) (w : World) (hsz : s.size ≤ 9223372036854775807) (hm : most ≤ 1000) :
    Calls Tryz.prog 13 #[.string s, .int .i64 (most : Int)] w (MadeOk most w) := by
  obtain ⟨i0, hi, hz0, hz1, hz2⟩ := info_parts intInfo
  have hmx : Tryz.prog.follows .mixedOrders = true := by kernel_rfl
  go_enter Tryz.func13, Tryz.ntmps13
  go_wp2
  go_loopw [5, 6] (fun v i wr => ∃ (k : Nat) (A : Option Addr) (c : Nat) (l : List Nat), k ≤ most ∧ k ≤ s.size ∧ i = .int .i64 (k : Int) ∧ v = .slice A k c ∧ wr.ownsRow w.heap.size 3 1 (.slice A k c) k (ints l) ∧ Below w.heap.size w wr ∧ Hid (Small10 l))
    (fun _ i _ => most - (intOf i).toNat)
  case atStart => exact ⟨0, none, 0, [], by omega, by omega, rfl, rfl, World.ownsRow_nil _ _ _ _, Below.refl _ _, small10_nil⟩
  case round =>
    obtain ⟨k, A, c, l, hkm, hks, rfl, rfl, hown, hB, hsm⟩ := hrel
    by_cases hgo : k < s.size ∧ k < most
    · obtain ⟨h1, h2⟩ := hgo
      have hb1 : (s[k].toNat : Int) < 256 := by have := s[k].toNat_lt; omega
      have hb0 : (0 : Int) ≤ s[k].toNat := by omega
      go_wp2_with (at_builtin; refine wpList_append_own _ rfl (.tmp 20) (.tmp 26) 44 rfl w.heap.size 3 i0 (.int .i64 0) 1 8 Tryz.underlying44 hi hz0 hz1 hz2 rfl (by decide) (.slice A k c) k (ints l) rfl (hown.alloc _) ⟨wr.heap.size, 0, none⟩ 1 1 [.int .i64 ((s[k].toNat : Int) % 10)] rfl rfl (cell_one_new _ _ _) (by simp [Value.oneCell']) (by unfold maxLen; omega) (by omega) (by have := hB.size; simp; omega) ?_; intro v' w3 hown3 hgrow3 _; obtain ⟨A3, c3, rfl⟩ := own_slice hown3)
      go_roundw
      case rel => exact ⟨k + 1, A3, c3, l ++ [s[k].toNat % 10], by omega, by omega, by go_num, rfl, by rw [← (show ((s[k].toNat : Int) % 10).toNat = s[k].toNat % 10 by omega), ← ints_snoc _ _ (by omega)]; exact hown3, (hB.alloc hB.size _).grown hgrow3 (by have := hB.size; simp; omega) (own_ge hown), hsm.append (Small10.mk (Nat.mod_lt _ (by decide)) small10_nil)⟩
      case measure => simp [intOf]; omega
    · have hnum : NumV wr A k l := Reads.of_own hown
      have hcap := own_le hown
      have HN := Lib.hid hnum
      have HO := Lib.hid hown
      clear hnum hown
      rcases Nat.eq_zero_or_pos s.size with hz | hz
      · obtain rfl : k = 0 := by omega
        go_wp2
        go_quiet ((first
          | (go_at_call 37; exact Calls.quiet_of_same (trim_zero A c _))
          | (go_at_call 36; exact Calls.quiet_of_same (rtext_zero _ A c _))))
        go_wp2
        go_ret
        exact madeOk_of (n := 0) (k := 0) (neg := false) (l := []) norm10_nil rfl (by omega) (below_drewN hB _)
      · go_wp2
        all_goals go_region_held3 (fun _ => True) (trivial) (first
          | (go_at_call 37; refine (trim_any A k c l _ (by exact HN.out) (by omega) hcap hsm).mono ?_; rintro e w2 ⟨⟨k', rfl, hk', hN', hnorm, hval⟩, rfl⟩)
          | (go_at_call 36; refine (rtext_any _ A k' c (l.take k') _ (by exact hN') (by omega) hnorm.1).mono ?_; rintro e w3 ⟨rfl, hb3⟩))
        all_goals go_wp2
        all_goals go_ret
        all_goals exact madeOk_of hnorm HN.out.len.symm (by omega) (hB.trans ((below_undrew hb3).mono hB.size))
end Go.Proofs.YtnfkibgoockmpaaGreatDoor
