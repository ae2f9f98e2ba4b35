/-
  The functions of package integer on absolute values: walks, each function once.
-/
import Derived.Test.YtnfkibgoockmpaaGreatDoorProg
import Derived.Test.YtnfkibgoockmpaaGreatDoorMem
import Derived.Test.YtnfkibgoockmpaaGreatDoorPlain
import Derived.Outline
import Derived.Deep.QuietTactic
import Derived.BigQuiet
import Derived.OwnWalk
import Derived.Maps.AppendAt
namespace Go.Proofs.YtnfkibgoockmpaaGreatDoor
open Go Go.RowKit Go.Lib

set_option maxHeartbeats 400000 in
theorem at_out (A : Option Addr) (n c : Nat) (i : Int) (w : World) (hi : (n : Int) ≤ i) :
    Calls Tryz.prog 70 #[.slice A n c, .int .i64 i] w fun e w' => e = .returned (.int .i64 0) ∧ w' = w := by
  go_enter Tryz.func70, Tryz.ntmps70
  go_wp2
  go_ret
  exact ⟨rfl, rfl⟩
set_option maxHeartbeats 400000 in
theorem at_in (ad : Addr) (n c : Nat) (i : Nat) (d : Int) (w : World) (hi : i < n) (hc : w.cell? (ad.add i) = some (.int .i64 d)) :
    Calls Tryz.prog 70 #[.slice (some ad) n c, .int .i64 (i : Int)] w fun e w' => e = .returned (.int .i64 d) ∧ w' = w := by
  go_enter Tryz.func70, Tryz.ntmps70
  go_wp2
  go_ret
  exact ⟨rfl, rfl⟩
/-- at: a group, 0 if there is none. -/
theorem at_any (A : Option Addr) (n c : Nat) (l : List Nat) (i : Nat) (w : World) (h : NumV w A n l) :
    Calls Tryz.prog 70 #[.slice A n c, .int .i64 (i : Int)] w fun e w' => e = .returned (.int .i64 ((l.getD i 0 : Nat) : Int)) ∧ w' = w := by
  rcases Nat.lt_or_ge i n with hi | hi
  · obtain ⟨ad, rfl, _, hc⟩ := h.cell i hi
    exact at_in ad n c i _ w hi hc
  · have e : l.getD i 0 = 0 := by
      rw [List.getD_eq_getElem?_getD, List.getElem?_eq_none (by rw [← h.len]; exact hi)]; rfl
    rw [e]
    exact at_out A n c i w (by omega)

theorem getD_take_last {l : List Nat} {k : Nat} : (0 < k → l.getD (k - 1) 0 ≠ 0) → (∀ j, k ≤ j → l.getD j 0 = 0) → Small l → k ≤ l.length → Norm (l.take k) ∧ val (l.take k) = val l :=
  fun h1 h2 h3 h4 => ⟨norm_take h3 k h4 h1, val_zeros l k h2⟩
set_option maxHeartbeats 400000 in
/-- trimmed: zeros at the end are left out. -/
theorem trimmed_any (A : Option Addr) (n c : Nat) (l : List Nat) (w : World) (h : NumV w A n l) (hn : n ≤ 1000000) (hcap : n ≤ c) (hs : Small l) :
    Calls Tryz.prog 65 #[.slice A n c] w fun e w' => (∃ k, e = .returned (.slice A k c) ∧ k ≤ n ∧ NumV w A k (l.take k) ∧ Norm (l.take k) ∧ val (l.take k) = val l) ∧ w' = w := by
  have hl := h.len
  have H := Lib.hid h
  have HL := Lib.hid hl
  clear hl h
  go_enter Tryz.func65, Tryz.ntmps65
  go_wp2
  go_loop [0] (fun v => ∃ k : Nat, k ≤ n ∧ v = .slice A k c ∧ Hid (∀ j, k ≤ j → l.getD j 0 = 0)) (fun v => match v with | .slice _ k _ => k | _ => 0)
  case atStart => exact ⟨n, Nat.le_refl _, rfl, fun j hj => by rw [List.getD_eq_getElem?_getD, List.getElem?_eq_none (by have := HL.out; omega)]; rfl⟩
  case round =>
    obtain ⟨k, hk, rfl, hz⟩ := hrel
    rcases Nat.eq_zero_or_pos k with rfl | hp
    · go_wp2
      go_ret
      obtain ⟨h1, h2⟩ := getD_take_last (l := l) (k := 0) (fun h => absurd h (by omega)) hz hs (by omega)
      exact ⟨⟨0, rfl, by omega, H.out.take (by omega), h1, h2⟩, rfl⟩
    · obtain ⟨ad, hA, _, hc⟩ := H.out.cell (k - 1) (by omega)
      subst hA
      by_cases h0 : l.getD (k - 1) 0 = 0
      · rw [h0] at hc
        have HZ := Lib.hid h0
        clear h0
        go_wp2
        go_round
        case rel => exact ⟨k - 1, by omega, by first | rfl | go_num, fun j hj => by
          rcases Nat.eq_or_lt_of_le hj with e | e
          · rw [← e]; exact HZ.out
          · exact hz j (by omega)⟩
        case measure => simp; try omega
      · have hb : ((l.getD (k - 1) 0 : Nat) : Int) ≠ 0 := by omega
        generalize hg : ((l.getD (k - 1) 0 : Nat) : Int) = d at *
        have hd : (d == 0) = false := by simpa using hb
        have HB := Lib.hid h0
        have HG := Lib.hid hg
        clear h0 hg hb
        go_wp2
        go_ret
        obtain ⟨h1, h2⟩ := getD_take_last (l := l) (k := k) (fun _ => HB.out) hz hs (by have := HL.out; omega)
        exact ⟨⟨k, rfl, hk, H.out.take hk, h1, h2⟩, rfl⟩

/-- plus's closure: l.at(i) + m.at(i). -/
theorem plus1_any (A B : Option Addr) (n c m d : Nat) (l k : List Nat) (i : Nat) (b1 b2 : Nat) (w : World) (hl : NumV w A n l) (hk : NumV w B m k) (hsl : Small l) (hsk : Small k)
    (h1 : w.cell? ⟨b1, 0, none⟩ = some (.slice A n c)) (h2 : w.cell? ⟨b2, 0, none⟩ = some (.slice B m d)) :
    Calls Tryz.prog 69 #[.int .i64 (i : Int), .pointer (some ⟨b1, 0, none⟩), .pointer (some ⟨b2, 0, none⟩)] w
      fun e w' => e = .returned (.int .i64 (((l.getD i 0 : Nat) : Int) + ((k.getD i 0 : Nat) : Int))) ∧ ∃ q, w' = w.drewN q := by
  have b1' := hsl.get i
  have b2' := hsk.get i
  have C1 := fun q => at_any A n c l i (w.drewN q) hl
  have C2 := fun q => at_any B m d k i (w.drewN q) hk
  generalize l.getD i 0 = x at *
  generalize k.getD i 0 = y at *
  clear hl hk hsl hsk
  have hx : ((x : Int)) < 10000 := by omega
  have hy : ((y : Int)) < 10000 := by omega
  have D1 := Lib.hid C1
  have D2 := Lib.hid C2
  clear C1 C2 b1' b2'
  go_enter Tryz.func69, Tryz.ntmps69
  go_wp2
  go_quiet ((go_at_call 70; (first | (with_reducible exact Calls.quiet_of_same (D1.out _)) | (with_reducible exact Calls.quiet_of_same (D2.out _)))))
  go_wp2
  go_ret
  exact ⟨rfl, _, rfl⟩
/-- minus's closure: l.at(i) - m.at(i). -/
theorem minus1_any (A B : Option Addr) (n c m d : Nat) (l k : List Nat) (i : Nat) (b1 b2 : Nat) (w : World) (hl : NumV w A n l) (hk : NumV w B m k) (hsl : Small l) (hsk : Small k)
    (h1 : w.cell? ⟨b1, 0, none⟩ = some (.slice A n c)) (h2 : w.cell? ⟨b2, 0, none⟩ = some (.slice B m d)) :
    Calls Tryz.prog 71 #[.int .i64 (i : Int), .pointer (some ⟨b1, 0, none⟩), .pointer (some ⟨b2, 0, none⟩)] w
      fun e w' => e = .returned (.int .i64 (((l.getD i 0 : Nat) : Int) - ((k.getD i 0 : Nat) : Int))) ∧ ∃ q, w' = w.drewN q := by
  have b1' := hsl.get i
  have b2' := hsk.get i
  have C1 := fun q => at_any A n c l i (w.drewN q) hl
  have C2 := fun q => at_any B m d k i (w.drewN q) hk
  generalize l.getD i 0 = x at *
  generalize k.getD i 0 = y at *
  clear hl hk hsl hsk
  have hx : ((x : Int)) < 10000 := by omega
  have hy : ((y : Int)) < 10000 := by omega
  have D1 := Lib.hid C1
  have D2 := Lib.hid C2
  clear C1 C2 b1' b2'
  go_enter Tryz.func71, Tryz.ntmps71
  go_wp2
  go_quiet ((go_at_call 70; (first | (with_reducible exact Calls.quiet_of_same (D1.out _)) | (with_reducible exact Calls.quiet_of_same (D2.out _)))))
  go_wp2
  go_ret
  exact ⟨rfl, _, rfl⟩
/-- by's closure: l.at(i) * x. -/
theorem by1_any (A : Option Addr) (n c : Nat) (l : List Nat) (x : Int) (i : Nat) (b1 b2 : Nat) (w : World) (hl : NumV w A n l) (hsl : Small l) (hx0 : 0 ≤ x) (hx1 : x < 10000)
    (h1 : w.cell? ⟨b1, 0, none⟩ = some (.slice A n c)) (h2 : w.cell? ⟨b2, 0, none⟩ = some (.int .i64 x)) :
    Calls Tryz.prog 84 #[.int .i64 (i : Int), .pointer (some ⟨b1, 0, none⟩), .pointer (some ⟨b2, 0, none⟩)] w
      fun e w' => e = .returned (.int .i64 (((l.getD i 0 : Nat) : Int) * x)) ∧ ∃ q, w' = w.drewN q := by
  have b1' := hsl.get i
  have C1 := fun q => at_any A n c l i (w.drewN q) hl
  generalize l.getD i 0 = y at *
  clear hl hsl
  have hw : IntKind.i64.wrap ((y : Int) * x) = (y : Int) * x := by
    have h3 : (y : Int) * x ≤ 10000 * 10000 := Int.mul_le_mul (by omega) (by omega) (by omega) (by omega)
    have h4 : 0 ≤ (y : Int) * x := Int.mul_nonneg (by omega) hx0
    rw [IntKind.wrap_i64]; omega
  have D1 := Lib.hid C1
  clear C1 b1'
  go_enter Tryz.func84, Tryz.ntmps84
  go_wp2
  go_quiet ((go_at_call 70; (with_reducible exact Calls.quiet_of_same (D1.out _))))
  go_wp2
  go_ret
  exact ⟨by first | rfl | rw [hw], _, rfl⟩

/-- A closure that gives the groups f, in whatever later world. -/
def Digits (g : FuncId) (lb : Array Value) (f : Nat → Int) (w0 : World) : Prop :=
  ∀ (W : World) (i : Nat), Below w0.heap.size w0 W → Calls Tryz.prog g (#[.int .i64 (i : Int)] ++ lb) W fun e W' => e = .returned (.int .i64 (f i)) ∧ ∃ q, W' = W.drewN q
theorem intInfo : (Tryz.prog.info? 3).map (fun i => (i.zero, i.size, i.bytes)) = some (some (.int .i64 0), 1, 8) := by kernel_rfl

/-- What fold's loop holds after k rounds: the groups l, a carry. -/
structure FoldInv (f : Nat → Int) (n k : Nat) (cr : Int) (l : List Nat) : Prop where
  len : l.length = k
  small : Small l
  sum : sumF f k = val l + cr * 10000 ^ k
  lo : -1 ≤ cr
  hi : cr ≤ 9999
  over : k = n + 1 → cr = 0
  le : k ≤ n + 1
theorem FoldInv.start (f : Nat → Int) (n : Nat) : FoldInv f n 0 0 [] := ⟨rfl, small_nil, by simp [sumF, val], by omega, by omega, fun _ => rfl, by omega⟩
theorem FoldInv.step {f : Nat → Int} {n k : Nat} {cr : Int} {l : List Nat} (h : FoldInv f n k cr l) (d : Nat) (cr' : Int) (hd : d < 10000) (hk : k < n ∨ cr ≠ 0)
    (hf : -9999 ≤ f k ∧ f k ≤ 99980001) (h0 : ∀ j, n ≤ j → f j = 0) (hpos : 0 ≤ sumF f n) (he : f k + cr = d + cr' * 10000) : FoldInv f n (k + 1) cr' (l ++ [d]) := by
  have hlo := h.lo
  have hhi := h.hi
  have hs : sumF f (k + 1) = (val (l ++ [d]) : Nat) + cr' * 10000 ^ (k + 1) := by
    rw [val_snoc, h.len]
    simp only [sumF]
    rw [h.sum]
    have e1 : f k * 10000 ^ k + cr * 10000 ^ k = (d + cr' * 10000) * 10000 ^ k := by rw [← Int.add_mul, he]
    have e2 : ((d : Int) + cr' * 10000) * 10000 ^ k = d * 10000 ^ k + cr' * 10000 ^ (k + 1) := by
      rw [Int.add_mul, Int.mul_assoc, show (10000 : Int) * 10000 ^ k = 10000 ^ (k + 1) from by rw [Int.pow_succ, Int.mul_comm]]
    have e3 : ((val l + d * 10000 ^ k : Nat) : Int) = (val l : Int) + d * 10000 ^ k := by simp
    rw [e3]
    omega
  have hkn : k ≤ n := by
    rcases hk with hk | hk
    · omega
    · have := h.le
      rcases Nat.lt_or_ge n k with h1 | h1
      · exact absurd (h.over (by omega)) hk
      · exact h1
  refine ⟨by rw [List.length_append, h.len]; rfl, h.small.append (Small.mk hd small_nil), hs, by omega, by omega, fun e => ?_, by omega⟩
  have e0 : f k = 0 := h0 k (by omega)
  obtain rfl : k = n := by omega
  rw [e0] at he
  -- the carry at n is not negative
  have hp : 0 ≤ cr := by
    rcases Int.lt_or_le cr 0 with hc | hc
    · exfalso
      have hc1 : cr = -1 := by omega
      have h5 := h.sum
      rw [hc1] at h5
      have h6 := val_lt h.small
      rw [h.len] at h6
      have h7 : ((val l : Nat) : Int) < ((10000 ^ k : Nat) : Int) := by omega
      rw [show ((10000 ^ k : Nat) : Int) = (10000 : Int) ^ k by simp] at h7
      omega
    · exact hc
  omega
theorem FoldInv.done {f : Nat → Int} {n k : Nat} {cr : Int} {l : List Nat} (h : FoldInv f n k cr l) (hk : n ≤ k) (hc : cr = 0) (h0 : ∀ j, n ≤ j → f j = 0) : (val l : Int) = sumF f n := by
  have h1 := h.sum
  rw [hc] at h1
  have h2 : ∀ m, sumF f (n + m) = sumF f n := by
    intro m
    induction m with
    | zero => rfl
    | succ m ih => rw [← Nat.add_assoc]; simp only [sumF]; rw [ih, h0 (n + m) (by omega)]; omega
  have h3 := h2 (k - n)
  rw [show n + (k - n) = k by omega] at h3
  omega
end Go.Proofs.YtnfkibgoockmpaaGreatDoor
