/-
  Sums, differences and products with one group of absolute values.
-/
import Derived.Test.YtnfkibgoockmpaaGreatDoorFold
namespace Go.Proofs.YtnfkibgoockmpaaGreatDoor
open Go Go.RowKit Go.Lib

/-- The slice is the number x. -/
def IsNum (w : World) (A : Option Addr) (n c x : Nat) : Prop := ∃ l, NumV w A n l ∧ Norm l ∧ val l = x ∧ n ≤ c
theorem IsNum.below {w w' : World} {A : Option Addr} {n c x : Nat} (h : IsNum w A n c x) (hb : Below w.heap.size w w') : IsNum w' A n c x :=
  let ⟨l, h1, h2, h3, h4⟩ := h; ⟨l, h1.below hb, h2, h3, h4⟩
theorem Norm.length_le {l : List Nat} (h : Norm l) {K : Nat} (hv : val l < 10000 ^ K) : l.length ≤ K := by
  by_cases hn : l = []
  · subst hn; simp
  · have h1 := h.val_ge hn
    rcases Nat.lt_or_ge K l.length with hlt | hge
    · have : 10000 ^ K ≤ 10000 ^ (l.length - 1) := Nat.pow_le_pow_right (by decide) (by omega)
      omega
    · exact hge
theorem IsNum.le {w : World} {A : Option Addr} {n c x : Nat} (h : IsNum w A n c x) {K : Nat} (hx : x < 10000 ^ K) : n ≤ K := by
  obtain ⟨l, h1, h2, h3, _⟩ := h
  rw [h1.len]
  exact h2.length_le (by rw [h3]; exact hx)
theorem IsNum.zero {w : World} {A : Option Addr} {n c x : Nat} (h : IsNum w A n c x) : n = 0 ↔ x = 0 := by
  obtain ⟨l, h1, h2, h3, _⟩ := h
  rw [h1.len, ← h3, h2.val_zero]
  exact List.length_eq_zero_iff
/-- Not too great: fewer than 4000 digits. -/
def Mod (x : Nat) : Prop := ∃ K, K ≤ 1000 ∧ x < 10000 ^ K
theorem mod_of_pow {x K : Nat} (h : x < 10000 ^ K) (hK : K ≤ 1000) : Mod x := ⟨K, hK, h⟩
theorem IsNum.le1 {w : World} {A : Option Addr} {n c x : Nat} (h : IsNum w A n c x) (hx : Mod x) : n ≤ 1000 := let ⟨_, hK, hlt⟩ := hx; Nat.le_trans (h.le hlt) hK
/-- The call hands back the number x; what lay there is untouched. -/
def GivesNum (x : Nat) (w : World) (e : Ending) (w' : World) : Prop := ∃ A n c, e = .returned (.slice A n c) ∧ IsNum w' A n c x ∧ Below w.heap.size w w'

theorem below2 (w : World) (o o' : Obj) : Below w.heap.size w ((w.alloc o).alloc o') := ((Below.refl _ _).alloc (Nat.le_refl _) o).alloc (by simp) o'
theorem cell_new (w : World) (v : Value) (t : TypeId) : (w.alloc (.cells #[v] t)).cell? ⟨w.heap.size, 0, none⟩ = some v := by
  rw [World.cell?_alloc_at _ _ _ _ (by simp)]; rfl
theorem cell_keep {w : World} {a : Addr} {v : Value} (o : Obj) (h : w.cell? a = some v) : (w.alloc o).cell? a = some v := by
  have hb := World.block_lt_of_cell? _ _ h
  rw [World.cell?_alloc_lt _ _ _ hb]; exact h
/-- Two boxes. -/
theorem boxes (w : World) (v u : Value) (t s : TypeId) : ((w.alloc (.cells #[v] t)).alloc (.cells #[u] s)).cell? ⟨w.heap.size, 0, none⟩ = some v ∧ ((w.alloc (.cells #[v] t)).alloc (.cells #[u] s)).cell? ⟨w.heap.size + 1, 0, none⟩ = some u := by
  refine ⟨cell_keep _ (cell_new _ _ _), ?_⟩
  have := cell_new (w.alloc (.cells #[v] t)) u s
  rwa [World.size_alloc] at this
theorem later {B : Nat} {w W : World} (hb : Below B w W) {b : Nat} {v : Value} (h : w.cell? ⟨b, 0, none⟩ = some v) (hlt : b < B) : W.cell? ⟨b, 0, none⟩ = some v := (hb.cell (p := ⟨b, 0, none⟩) hlt).trans h

set_option maxHeartbeats 1000000 in
/-- plus: a sum. -/
theorem plus_any (A B : Option Addr) (n c m d x y : Nat) (w : World) (hx : IsNum w A n c x) (hy : IsNum w B m d y) (hx1 : Mod x) (hy1 : Mod y) :
    Calls Tryz.prog 43 #[.slice A n c, .slice B m d] w (GivesNum (x + y) w) := by
  have hn := hx.le1 hx1
  have hm := hy.le1 hy1
  clear hx1 hy1
  obtain ⟨l, hl, nl, vl, _⟩ := hx
  obtain ⟨k, hk, nk, vk, _⟩ := hy
  obtain ⟨w1, hw1⟩ : ∃ w1, w1 = (w.alloc (.cells #[.slice A n c] 48)).alloc (.cells #[.slice B m d] 48) := ⟨_, rfl⟩
  have hsz : w1.heap.size = w.heap.size + 1 + 1 := by rw [hw1]; simp
  have hb1 : Below w.heap.size w w1 := by rw [hw1]; exact below2 _ _ _
  have hc := boxes w (.slice A n c) (.slice B m d) 48 48
  rw [← hw1] at hc
  have hd : Digits 69 #[.pointer (some ⟨w.heap.size, 0, none⟩), .pointer (some ⟨w.heap.size + 1, 0, none⟩)] (fun i => ((l.getD i 0 : Nat) : Int) + ((k.getD i 0 : Nat) : Int)) w1 := fun W i hb =>
    plus1_any A B n c m d l k i _ _ W ((hl.below hb1).below hb) ((hk.below hb1).below hb) nl.1 nk.1 (later hb hc.1 (by omega)) (later hb hc.2 (by omega))
  have hsum : ∀ N, l.length ≤ N → k.length ≤ N → sumF (fun i => ((l.getD i 0 : Nat) : Int) + ((k.getD i 0 : Nat) : Int)) N = ((x + y : Nat) : Int) := fun N h1 h2 => by
    rw [sumF_add, sumF_val l N h1, sumF_val k N h2, vl, vk]; simp
  have hz : ∀ N, l.length ≤ N → k.length ≤ N → ∀ j, N ≤ j → ((l.getD j 0 : Nat) : Int) + ((k.getD j 0 : Nat) : Int) = 0 := fun N h1 h2 j hj => by
    rw [List.getD_eq_getElem?_getD, List.getD_eq_getElem?_getD, List.getElem?_eq_none (by omega), List.getElem?_eq_none (by omega)]; rfl
  have hbd : ∀ j, -9999 ≤ ((l.getD j 0 : Nat) : Int) + ((k.getD j 0 : Nat) : Int) ∧ ((l.getD j 0 : Nat) : Int) + ((k.getD j 0 : Nat) : Int) ≤ 99980001 := fun j => by
    have := nl.1.get j; have := nk.1.get j; omega
  have hln := hl.len
  have hkn := hk.len
  have eg : ∀ args w, (callFunc 69 args).run Tryz.prog w = .ok (.enter 69 args) w := enters_of Tryz.func69 (by kernel_rfl) rfl
  have F := fun N (h1 : n ≤ N) (h2 : m ≤ N) (_h3 : N ≤ 1000) => (fold_any N 69 _ _ w1 eg hd (by omega) hbd (hz N (by omega) (by omega)) (by rw [hsum N (by omega) (by omega)]; omega)).mono (R' := fun e w' => ∃ A k c l, e = .returned (.slice A k c) ∧ k ≤ c ∧ NumV w' A k l ∧ Small l ∧ (val l : Int) = ((x + y : Nat) : Int) ∧ k ≤ N + 1 ∧ Below w1.heap.size w1 w') (fun e w' ⟨A, k, c, l, g1, g2, g3, g4, g5, g6, g7⟩ => ⟨A, k, c, l, g1, g2, g3, g4, by rw [g5, hsum N (by omega) (by omega)], g6, g7⟩)
  have HF := Lib.hid F
  clear F hd hsum hz hbd hl hk nl nk vl vk
  have hmf : ∀ (fn : Fn) (first cap : Array Value) (w : World), (Instr.makeFunc fn first cap).run Tryz.prog w = .ok (.func fn first cap) w := fun _ _ _ _ => rfl
  have HLN := Lib.hid hln
  have HKN := Lib.hid hkn
  have HW := Lib.hid hw1
  clear hln hkn hw1 hsz eg
  rcases Nat.lt_or_ge n m with hnm | hnm
  · go_enter Tryz.func43, Tryz.ntmps43
    go_wp2_with fail
    have HF2 := HF.out m (Nat.le_of_lt hnm) (Nat.le_refl _) hm
    rw [HW.out] at HF2
    refine HF2.mono ?_
    rintro e w2 ⟨A', k', c', r, rfl, hkc, hr, sr, vr, hkn, hb2⟩
    go_wp2_with fail
    refine (trimmed_any A' k' c' r w2 hr (by omega) hkc sr).mono ?_
    rintro e w3 ⟨⟨k'', rfl, hk'', hr'', nr'', vr''⟩, rfl⟩
    go_wp2
    go_ret
    exact ⟨A', k'', c', rfl, ⟨_, hr'', nr'', by rw [vr'']; omega, by omega⟩, (below2 _ _ _).trans (hb2.mono (by simp; omega))⟩
  · go_enter Tryz.func43, Tryz.ntmps43
    go_wp2_with fail
    have HF2 := HF.out n (Nat.le_refl _) hnm hn
    rw [HW.out] at HF2
    refine HF2.mono ?_
    rintro e w2 ⟨A', k', c', r, rfl, hkc, hr, sr, vr, hkn, hb2⟩
    go_wp2_with fail
    refine (trimmed_any A' k' c' r w2 hr (by omega) hkc sr).mono ?_
    rintro e w3 ⟨⟨k'', rfl, hk'', hr'', nr'', vr''⟩, rfl⟩
    go_wp2
    go_ret
    exact ⟨A', k'', c', rfl, ⟨_, hr'', nr'', by rw [vr'']; omega, by omega⟩, (below2 _ _ _).trans (hb2.mono (by simp; omega))⟩
set_option maxHeartbeats 1000000 in
/-- minus: a difference that is not negative. -/
theorem minus_any (A B : Option Addr) (n c m d x y : Nat) (w : World) (hx : IsNum w A n c x) (hy : IsNum w B m d y) (hx1 : Mod x) (hy1 : Mod y) (hyx : y ≤ x) :
    Calls Tryz.prog 45 #[.slice A n c, .slice B m d] w (GivesNum (x - y) w) := by
  have hn := hx.le1 hx1
  have hm := hy.le1 hy1
  clear hx1 hy1
  obtain ⟨l, hl, nl, vl, _⟩ := hx
  obtain ⟨k, hk, nk, vk, _⟩ := hy
  obtain ⟨w1, hw1⟩ : ∃ w1, w1 = (w.alloc (.cells #[.slice A n c] 48)).alloc (.cells #[.slice B m d] 48) := ⟨_, rfl⟩
  have hsz : w1.heap.size = w.heap.size + 1 + 1 := by rw [hw1]; simp
  have hb1 : Below w.heap.size w w1 := by rw [hw1]; exact below2 _ _ _
  have hc := boxes w (.slice A n c) (.slice B m d) 48 48
  rw [← hw1] at hc
  have hd : Digits 71 #[.pointer (some ⟨w.heap.size, 0, none⟩), .pointer (some ⟨w.heap.size + 1, 0, none⟩)] (fun i => ((l.getD i 0 : Nat) : Int) - ((k.getD i 0 : Nat) : Int)) w1 := fun W i hb =>
    minus1_any A B n c m d l k i _ _ W ((hl.below hb1).below hb) ((hk.below hb1).below hb) nl.1 nk.1 (later hb hc.1 (by omega)) (later hb hc.2 (by omega))
  have hsum : ∀ N, l.length ≤ N → k.length ≤ N → sumF (fun i => ((l.getD i 0 : Nat) : Int) - ((k.getD i 0 : Nat) : Int)) N = ((x - y : Nat) : Int) := fun N h1 h2 => by
    rw [sumF_sub, sumF_val l N h1, sumF_val k N h2, vl, vk]; omega
  have hz : ∀ N, l.length ≤ N → k.length ≤ N → ∀ j, N ≤ j → ((l.getD j 0 : Nat) : Int) - ((k.getD j 0 : Nat) : Int) = 0 := fun N h1 h2 j hj => by
    rw [List.getD_eq_getElem?_getD, List.getD_eq_getElem?_getD, List.getElem?_eq_none (by omega), List.getElem?_eq_none (by omega)]; rfl
  have hbd : ∀ j, -9999 ≤ ((l.getD j 0 : Nat) : Int) - ((k.getD j 0 : Nat) : Int) ∧ ((l.getD j 0 : Nat) : Int) - ((k.getD j 0 : Nat) : Int) ≤ 99980001 := fun j => by
    have := nl.1.get j; have := nk.1.get j; omega
  have hln := hl.len
  have hkn := hk.len
  have eg : ∀ args w, (callFunc 71 args).run Tryz.prog w = .ok (.enter 71 args) w := enters_of Tryz.func71 (by kernel_rfl) rfl
  have hlk : k.length ≤ l.length := by
    rcases Nat.lt_or_ge l.length k.length with h | h
    · have := nl.lt_of_length nk h; omega
    · exact h
  have F := fold_any n 71 _ _ w1 eg hd (by omega) hbd (hz n (by omega) (by omega)) (by rw [hsum n (by omega) (by omega)]; omega)
  rw [hsum n (by omega) (by omega)] at F
  have HF := Lib.hid F
  clear F hd hsum hz hbd hl hk nl nk vl vk hlk
  have hmf : ∀ (fn : Fn) (first cap : Array Value) (w : World), (Instr.makeFunc fn first cap).run Tryz.prog w = .ok (.func fn first cap) w := fun _ _ _ _ => rfl
  have HLN := Lib.hid hln
  have HKN := Lib.hid hkn
  have HW := Lib.hid hw1
  have HYX := Lib.hid hyx
  clear hln hkn hw1 hsz eg hyx
  go_enter Tryz.func45, Tryz.ntmps45
  go_wp2_with fail
  have HF2 := HF.out
  rw [HW.out] at HF2
  refine HF2.mono ?_
  rintro e w2 ⟨A', k', c', r, rfl, hkc, hr, sr, vr, hkn, hb2⟩
  go_wp2_with fail
  refine (trimmed_any A' k' c' r w2 hr (by omega) hkc sr).mono ?_
  rintro e w3 ⟨⟨k'', rfl, hk'', hr'', nr'', vr''⟩, rfl⟩
  go_wp2
  go_ret
  exact ⟨A', k'', c', rfl, ⟨_, hr'', nr'', by rw [vr'']; omega, by omega⟩, (below2 _ _ _).trans (hb2.mono (by simp; omega))⟩
set_option maxHeartbeats 1000000 in
/-- by: the product with a single group. -/
theorem by_any (A : Option Addr) (n c x : Nat) (y : Nat) (w : World) (hx : IsNum w A n c x) (hx1 : Mod x) (hy : y < 10000) :
    Calls Tryz.prog 64 #[.slice A n c, .int .i64 (y : Int)] w (GivesNum (x * y) w) := by
  have hn := hx.le1 hx1
  clear hx1
  obtain ⟨l, hl, nl, vl, _⟩ := hx
  obtain ⟨w1, hw1⟩ : ∃ w1, w1 = (w.alloc (.cells #[.slice A n c] 48)).alloc (.cells #[.int .i64 (y : Int)] 3) := ⟨_, rfl⟩
  have hsz : w1.heap.size = w.heap.size + 1 + 1 := by rw [hw1]; simp
  have hb1 : Below w.heap.size w w1 := by rw [hw1]; exact below2 _ _ _
  have hc := boxes w (.slice A n c) (.int .i64 (y : Int)) 48 3
  rw [← hw1] at hc
  have hd : Digits 84 #[.pointer (some ⟨w.heap.size, 0, none⟩), .pointer (some ⟨w.heap.size + 1, 0, none⟩)] (fun i => ((l.getD i 0 : Nat) : Int) * (y : Int)) w1 := fun W i hb =>
    by1_any A n c l y i _ _ W ((hl.below hb1).below hb) nl.1 (by omega) (by omega) (later hb hc.1 (by omega)) (later hb hc.2 (by omega))
  have hln := hl.len
  have hsum : sumF (fun i => ((l.getD i 0 : Nat) : Int) * (y : Int)) n = ((x * y : Nat) : Int) := by
    rw [sumF_mul, sumF_val l n (by omega), vl]; simp
  have hz : ∀ j, n ≤ j → ((l.getD j 0 : Nat) : Int) * (y : Int) = 0 := fun j hj => by
    rw [List.getD_eq_getElem?_getD, List.getElem?_eq_none (by omega)]; simp
  have hbd : ∀ j, -9999 ≤ ((l.getD j 0 : Nat) : Int) * (y : Int) ∧ ((l.getD j 0 : Nat) : Int) * (y : Int) ≤ 99980001 := fun j => by
    have h1 := nl.1.get j
    have h3 : ((l.getD j 0 : Nat) : Int) * (y : Int) ≤ 9999 * 9999 := Int.mul_le_mul (by omega) (by omega) (by omega) (by omega)
    have h4 : 0 ≤ ((l.getD j 0 : Nat) : Int) * (y : Int) := Int.mul_nonneg (by omega) (by omega)
    omega
  have eg : ∀ args w, (callFunc 84 args).run Tryz.prog w = .ok (.enter 84 args) w := enters_of Tryz.func84 (by kernel_rfl) rfl
  have F := fold_any n 84 _ _ w1 eg hd (by omega) hbd hz (by rw [hsum]; omega)
  rw [hsum] at F
  have HF := Lib.hid F
  clear F hd hsum hz hbd hl nl vl
  have hmf : ∀ (fn : Fn) (first cap : Array Value) (w : World), (Instr.makeFunc fn first cap).run Tryz.prog w = .ok (.func fn first cap) w := fun _ _ _ _ => rfl
  have HLN := Lib.hid hln
  have HW := Lib.hid hw1
  clear hln hw1 hsz eg
  go_enter Tryz.func64, Tryz.ntmps64
  go_wp2_with fail
  have HF2 := HF.out
  rw [HW.out] at HF2
  refine HF2.mono ?_
  rintro e w2 ⟨A', k', c', r, rfl, hkc, hr, sr, vr, hkn, hb2⟩
  go_wp2_with fail
  refine (trimmed_any A' k' c' r w2 hr (by omega) hkc sr).mono ?_
  rintro e w3 ⟨⟨k'', rfl, hk'', hr'', nr'', vr''⟩, rfl⟩
  go_wp2
  go_ret
  exact ⟨A', k'', c', rfl, ⟨_, hr'', nr'', by rw [vr'']; omega, by omega⟩, (below2 _ _ _).trans (hb2.mono (by simp; omega))⟩
end Go.Proofs.YtnfkibgoockmpaaGreatDoor
