/-
  slices.Backward over a slice of groups: the iterator's contract.
-/
import Derived.RangeFuncNested
import Derived.RangeFuncBox
import Derived.RangeFuncBound
import Derived.RangeFuncCalls
import Derived.RangeFuncLeaves
import Derived.Shelf.Abstract
import Derived.Shelf.RegionOpen
import Derived.OwnWalkIn
import Derived.TacticsInMore
import Derived.LoopNIn
import Derived.LoopIn
import Derived.Test.YtnfkibgoockmpaaGreatDoorSum
namespace Go.Proofs.YtnfkibgoockmpaaGreatDoor
open Go Go.RowKit Go.Lib Go.Shelf
attribute [local go_sem] Oper.semAt_some

/-- What has come when k rounds are over. -/
def upto {α : Type} (f : Nat → α) (k : Nat) : List α := (List.range k).map f
theorem upto_succ {α : Type} (f : Nat → α) (k : Nat) : upto f (k + 1) = upto f k ++ [f k] := by simp [upto, List.range_succ]
theorem upto_length {α : Type} (f : Nat → α) (k : Nat) : (upto f k).length = k := by simp [upto]

/-- A place in a list of m groups. -/
abbrev Place (m : Nat) := { i : Nat // i < m ∨ m = 0 }
/-- The k-th place that comes, from the top. -/
def bk (m k : Nat) : Place m := ⟨m - 1 - k, by omega⟩

/-- What a round keeps: what lies below n₀, and the iterator's own box. -/
structure KpB (n₀ Bs : Nat) (W W' : World) : Prop where
  below : Below n₀ W W'
  box : W'.heap[Bs]? = W.heap[Bs]?
theorem KpB.refl (n₀ Bs : Nat) (W : World) : KpB n₀ Bs W W := ⟨Below.refl _ _, rfl⟩
theorem KpB.trans {n₀ Bs : Nat} {A B C : World} (h : KpB n₀ Bs A B) (k : KpB n₀ Bs B C) : KpB n₀ Bs A C := ⟨h.below.trans k.below, k.box.trans h.box⟩
theorem KpB.cell {n₀ Bs : Nat} {A B : World} (h : KpB n₀ Bs A B) {v : Value} (hv : A.cell? ⟨Bs, 0, none⟩ = some v) : B.cell? ⟨Bs, 0, none⟩ = some v :=
  (World.cell?_of_block (a := ⟨Bs, 0, none⟩) h.box).trans hv
theorem KpB.book {n₀ Bs : Nat} {w : World} (hn : n₀ ≤ w.heap.size) (hB : Bs < w.heap.size) (W : World) (l : Nat) (o o' : Obj) (hl : w.heap.size ≤ l) (h : W.heap[l]? = some o) (h1 : o.isCells = false) (h2 : o.isWalk = false) : KpB n₀ Bs W (W.putObj l o') :=
  ⟨belowK_b hn W l o o' hl h h1 h2, World.putObj_heap_other (by omega)⟩
theorem KpB.of_below {n₀ Bs B : Nat} {W W' : World} (h : Below B W W') (h1 : n₀ ≤ B) (h2 : Bs < B) : KpB n₀ Bs W W' := ⟨h.mono h1, h.block Bs h2⟩
theorem KpB.set {n₀ Bs : Nat} {W : World} {p : Addr} (h1 : n₀ ≤ p.block) (h2 : Bs ≠ p.block) (v : Value) : KpB n₀ Bs W (W.setCell p v) :=
  ⟨(Below.refl _ _).setCell h1 v, Below.heap_setCell W p v Bs h2⟩

set_option maxRecDepth 100000 in
set_option maxHeartbeats 2000000 in
theorem back1_in (n : Nat) (hn : 1 ≤ n) (q Bs n₀ : Nat) (A : Option Addr) (m cap : Nat) (l : List Nat) (hm : m ≤ 1000000) (hl : m = l.length) (J Jx : List (Place m) → World → Prop)
    (hY : ∀ pre x W, J pre W → pre.length < m → YieldAt Fence.wide (n - 1) Tryz.prog q #[Value.int .i64 (x.1 : Int), Value.int .i64 (gd l x.1 : Nat)] W fun e W' =>
      (e = .returned (.bool true) ∧ J (pre ++ [x]) W' ∧ KpB n₀ Bs W W') ∨ (e = .returned (.bool false) ∧ Jx (pre ++ [x]) W'))
    (W : World) (hBs : W.cell? ⟨Bs, 0, none⟩ = some (.slice A m cap)) (hc : Reads W n₀ 1 A m (ints l)) (h0 : J [] W) :
    CallsIn Fence.wide n Tryz.prog 78 #[.func (.yield q) #[] #[], .pointer (some ⟨Bs, 0, none⟩)] W fun e W' => (∃ v, e = .returned v) ∧
      ((∃ ys, ys = upto (bk m) m ∧ J ys W') ∨ (∃ pre, (∃ k, k ≤ m ∧ pre = upto (bk m) k) ∧ Jx pre W')) := by
  refine callsIn_of_wp Tryz.func78 rfl trivial ?_ rfl
  simp only [Tryz.ntmps78, List.size_toArray, List.length_cons, List.length_nil, Nat.reduceAdd, Nat.reduceSub, Array.replicate_succ, Array.replicate_zero, List.push_toArray, List.append_toArray, List.nil_append, List.cons_append]
  have HC := Lib.hid hc
  have HL := Lib.hid hl
  clear hc hl
  gi_wp2
  gi_loopw [3] (fun i wr => ∃ k : Nat, k ≤ m ∧ i = .int .i64 ((m : Int) - 1 - k) ∧ J (upto (bk m) k) wr ∧ KpB n₀ Bs W wr)
    (fun i _ => (intOf i + 1).toNat)
  case atStart => exact ⟨0, Nat.zero_le _, by go_num, h0, KpB.refl _ _ _⟩
  case round =>
    obtain ⟨k, hk, rfl, hJs, hnx⟩ := hrel
    have hBr : wr.cell? ⟨Bs, 0, none⟩ = some (.slice A m cap) := hnx.cell hBs
    by_cases hlt : k < m
    · obtain ⟨ad, u, hA, hadb, hu, hcu⟩ := (Reads.below HC.out hnx.below).at_ (k := m - 1 - k) (by omega)
      rw [ints_get l _ (by have := HL.out; omega)] at hu
      injection hu with hu
      subst hu
      subst hA
      have hx : (bk m k).1 = m - 1 - k := rfl
      obtain ⟨fn, tmps, assign, body, hy, hR⟩ := hY _ (bk m k) wr hJs (by rw [upto_length]; exact hlt)
      rw [hx] at hy
      have HX := Lib.hid hx
      generalize hi : m - 1 - k = i at *
      have hi2 : (m : Int) - 1 - k = (i : Int) := by omega
      rw [hi2]
      have HI := Lib.hid hi
      have HI2 := Lib.hid hi2
      have hi3 : i < m := by omega
      change wr.cell? _ = some (.int .i64 (gd l i : Nat)) at hcu
      generalize gd l i = v at *
      clear hi hi2 hx
      gi_wp2
      refine hR.mono ?_
      rintro e W3 (⟨rfl, hJ3, hk3⟩ | ⟨rfl, hJx3⟩)
      · gi_wp2
        go_roundw
        case rel => exact ⟨k + 1, by omega, by have := HI2.out; go_num, by rw [upto_succ]; exact hJ3, hnx.trans hk3⟩
        case measure => simp [intOf]; try omega
      · gi_wp2
        refine bodyPost_ret (results_none rfl _ _ _) rfl ?_
        exact ⟨⟨_, rfl⟩, .inr ⟨_, ⟨k + 1, by omega, (upto_succ _ _).symm⟩, hJx3⟩⟩
    · obtain rfl : k = m := by omega
      gi_wp2
      go_end0
      exact ⟨⟨_, rfl⟩, .inl ⟨_, rfl, hJs⟩⟩

set_option maxHeartbeats 1000000 in
/-- slices.Backward: the slice value is boxed; the function value captures the box. -/
theorem back_in (n : Nat) (A : Option Addr) (m cap : Nat) (w : World) :
    CallsIn Fence.wide n Tryz.prog 60 #[.slice A m cap] w fun e w' => e = .returned (.func (.func 78) #[] #[.pointer (some ⟨w.heap.size, 0, none⟩)]) ∧ w' = w.alloc (.cells #[.slice A m cap] 48) := by
  have hmf : ∀ (fn : Fn) (first cap : Array Value) (w : World), (Instr.makeFunc fn first cap).run Tryz.prog w = .ok (.func fn first cap) w := fun _ _ _ _ => rfl
  refine callsIn_of_wp Tryz.func60 rfl trivial ?_ rfl
  simp only [Tryz.ntmps60, List.size_toArray, List.length_cons, List.length_nil, Nat.reduceAdd, Nat.reduceSub, Array.replicate_succ, Array.replicate_zero, List.push_toArray, List.append_toArray, List.nil_append, List.cons_append]
  gi_wp2
  go_ret
  exact ⟨rfl, rfl⟩

/-- It hands back a value that gives the groups from the top. -/
theorem back_stops (n : Nat) (hn : 1 ≤ n) (Bs n₀ : Nat) (A : Option Addr) (m cap : Nat) (l : List Nat) (hm : m ≤ 1000000) (w : World) (hBs : Bs < w.heap.size) (hn₀ : n₀ ≤ w.heap.size)
    (hc : w.cell? ⟨Bs, 0, none⟩ = some (.slice A m cap)) (hI : Reads w n₀ 1 A m (ints l)) :
    SeqStopsK Fence.wide n Tryz.prog 78 #[.pointer (some ⟨Bs, 0, none⟩)] (fun x : Place m => #[Value.int .i64 (x.1 : Int), Value.int .i64 (gd l x.1 : Nat)]) (KpB n₀ Bs) (fun ys => ys = upto (bk m) m)
      (fun pre => ∃ k, k ≤ m ∧ pre = upto (bk m) k) m w := fun q J Jx W hW _ _ hY h0 => by
  have hl : m = l.length := by have := hI.1; rw [ints_length] at this; omega
  exact back1_in n hn q Bs n₀ A m cap l hm hl J Jx hY W ((hW.cell (p := ⟨Bs, 0, none⟩) hBs).trans hc) (Reads.keep hI fun p hp => hW.cell (by omega)) h0
end Go.Proofs.YtnfkibgoockmpaaGreatDoor
