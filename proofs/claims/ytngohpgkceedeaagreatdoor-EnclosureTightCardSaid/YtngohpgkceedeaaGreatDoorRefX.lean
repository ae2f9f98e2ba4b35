/-
  The reference implementation: products of lists of digits.
-/
import Derived.Test.YtngohpgkceedeaaGreatDoorRefM
import Derived.Test.YtngohpgkceedeaaGreatDoorOver
namespace Go.Proofs.YtngohpgkceedeaaGreatDoor
open Go Go.RowKit Go.Lib

theorem val10_set (l : List Nat) (j d : Nat) (h : j < l.length) : val10 (l.set j d) + l.getD j 0 * 10 ^ j = val10 l + d * 10 ^ j := by
  induction l generalizing j with
  | nil => simp at h
  | cons x l ih =>
    cases j with
    | zero => simp [val10]; omega
    | succ j =>
      have := ih j (by simpa using h)
      simp only [List.set_cons_succ, val10, List.getD_cons_succ, Nat.pow_succ]
      rw [← Nat.mul_assoc, ← Nat.mul_assoc]
      omega
theorem small10_set {l : List Nat} (h : Small10 l) (j : Nat) {d : Nat} (hd : d < 10) : Small10 (l.set j d) := fun x hx => by
  rcases List.mem_or_eq_of_mem_set hx with hx | rfl
  · exact h x hx
  · exact hd
theorem small10_zeros (n : Nat) : Small10 (List.replicate n 0) := fun x hx => by
  obtain ⟨_, rfl⟩ := List.mem_replicate.1 hx
  decide
theorem val10_replicate (n : Nat) : val10 (List.replicate n 0) = 0 := by
  induction n with
  | zero => rfl
  | succ n ih => simp [List.replicate_succ, val10, ih]
/-- What holds between two rounds of the outer loop. -/
structure TOut (a b : List Nat) (i : Nat) (o : List Nat) : Prop where
  len : o.length = a.length + b.length
  small : Small10 o
  eq : val10 o = val10 (a.take i) * val10 b
/-- What holds between two rounds of the inner loop. -/
structure TIn (a b : List Nat) (i k cr : Nat) (o : List Nat) : Prop where
  len : o.length = a.length + b.length
  small : Small10 o
  cr9 : cr ≤ 9
  eq : val10 o + cr * 10 ^ (i + k) = val10 (a.take i) * val10 b + a.getD i 0 * val10 (b.take k) * 10 ^ i
  bound : k ≤ b.length + 1
theorem TIn.start {a b : List Nat} {i : Nat} {o : List Nat} (h : TOut a b i o) : TIn a b i 0 0 o := ⟨h.len, h.small, by omega, by rw [h.eq]; simp [val10], by omega⟩
theorem TIn.room {a b : List Nat} {i k cr : Nat} {o : List Nat} (h : TIn a b i k cr o) (ha : Small10 a) (hb : Small10 b) (hi : i < a.length) (hcr : 0 < cr) : k ≤ b.length := by
  rcases Nat.lt_or_ge b.length k with hk | hk
  · exfalso
    have he := h.eq
    rw [List.take_of_length_le (by omega : b.length ≤ k)] at he
    have h1 := val10_lt (ha.take (i + 1))
    rw [take_gd, List.length_take, Nat.min_eq_left (by omega)] at h1
    have h2 := val10_lt hb
    have h3 : val10 (a.take i) * val10 b + a.getD i 0 * val10 b * 10 ^ i = (val10 (a.take i) + a.getD i 0 * 10 ^ i) * val10 b := by
      rw [Nat.add_mul]; congr 1; rw [Nat.mul_assoc, Nat.mul_comm (val10 b), ← Nat.mul_assoc]
    have h4 : (val10 (a.take i) + a.getD i 0 * 10 ^ i) * val10 b < 10 ^ (i + 1) * 10 ^ b.length := Nat.mul_lt_mul'' h1 h2
    rw [← Nat.pow_add] at h4
    have h5 : 10 ^ (i + 1 + b.length) ≤ 10 ^ (i + k) := Nat.pow_le_pow_right (by decide) (by omega)
    have h6 : 10 ^ (i + k) ≤ cr * 10 ^ (i + k) := Nat.le_mul_of_pos_left _ hcr
    omega
  · exact hk
theorem TIn.step {a b : List Nat} {i k cr : Nat} {o : List Nat} (h : TIn a b i k cr o) (ha : Small10 a) (hb : Small10 b) (hi : i < a.length) (hgo : k < b.length ∨ 0 < cr) :
    i + k < o.length ∧ TIn a b i (k + 1) ((o.getD (i + k) 0 + cr + a.getD i 0 * b.getD k 0) / 10) (o.set (i + k) ((o.getD (i + k) 0 + cr + a.getD i 0 * b.getD k 0) % 10)) := by
  have hk : k ≤ b.length := by
    rcases hgo with hg | hg
    · omega
    · exact h.room ha hb hi hg
  have hlt : i + k < o.length := by rw [h.len]; omega
  have h1 := h.small.get (i + k)
  have h2 := ha.get i
  have h3 := hb.get k
  have h4 := h.cr9
  have h5 : a.getD i 0 * b.getD k 0 ≤ 9 * 9 := Nat.mul_le_mul (by omega) (by omega)
  refine ⟨hlt, by rw [List.length_set, h.len], small10_set h.small _ (Nat.mod_lt _ (by decide)), by omega, ?_, by omega⟩
  have he := h.eq
  have hv := val10_set o (i + k) ((o.getD (i + k) 0 + cr + a.getD i 0 * b.getD k 0) % 10) hlt
  rw [take_gd b k, Nat.mul_add, Nat.add_mul]
  have e1 : a.getD i 0 * (b.getD k 0 * 10 ^ k) * 10 ^ i = a.getD i 0 * b.getD k 0 * 10 ^ (i + k) := by
    rw [Nat.pow_add, Nat.mul_comm (10 ^ i), ← Nat.mul_assoc, ← Nat.mul_assoc, Nat.mul_assoc]
  rw [e1, show i + (k + 1) = i + k + 1 by omega, Nat.pow_succ]
  generalize a.getD i 0 * b.getD k 0 = p at *
  generalize o.getD (i + k) 0 = u at *
  have hdm := Nat.div_add_mod (u + cr + p) 10
  generalize (u + cr + p) / 10 = q at *
  generalize (u + cr + p) % 10 = r at *
  generalize 10 ^ (i + k) = P at *
  have e2 : (u + cr + p) * P = (10 * q + r) * P := by rw [hdm]
  rw [Nat.add_mul, Nat.add_mul, Nat.add_mul] at e2
  have e3 : q * (P * 10) = 10 * q * P := by rw [Nat.mul_comm P 10, ← Nat.mul_assoc, Nat.mul_comm q 10]
  omega
theorem TIn.done {a b : List Nat} {i k : Nat} {o : List Nat} (h : TIn a b i k 0 o) (hk : b.length ≤ k) : TOut a b (i + 1) o := by
  have he := h.eq
  rw [List.take_of_length_le hk] at he
  refine ⟨h.len, h.small, ?_⟩
  rw [take_gd, Nat.add_mul, Nat.mul_assoc (a.getD i 0), Nat.mul_comm (10 ^ i), ← Nat.mul_assoc]
  omega
theorem make_ints (K : Nat) (hK : K ≤ 1000000) (i : TypeInfo) (hi : Tryz.prog.info? 3 = some i) (hz : i.zero = some (.int .i64 0)) (hs : i.size = 1) (hb : i.bytes = 8) (W : World) :
    (Instr.makeSlice 58 (.int .i64 (K : Int)) (.int .i64 (K : Int))).run Tryz.prog W = .ok (.slice (some ⟨W.heap.size, 0, none⟩) K K) (W.alloc (.cells (ints (List.replicate K 0)).toArray 3)) :=
  run_make_zeros (P := Tryz.prog) 58 3 i Tryz.underlying58 hi hz hs hb K hK W
theorem arr_cell {W : World} {b : Nat} {t : TypeId} {l : List Nat} (h : W.heap[b]? = some (.cells (ints l).toArray t (0, 0))) {j : Nat} (hj : j < l.length) : W.cell? ⟨b, j, none⟩ = some (.int .i64 ((l.getD j 0 : Nat) : Int)) := by
  rw [cell_of_row _ _ _ _ _ _ h, List.getElem?_toArray]
  exact ints_get l j hj
theorem arr_free {W : World} {b : Nat} {t : TypeId} {l : List Nat} (h : W.heap[b]? = some (.cells (ints l).toArray t (0, 0))) (j : Nat) : W.frozen? ⟨b, j, none⟩ = false := frozen_of_row _ _ _ _ _ h
set_option maxRecDepth 100000 in
set_option maxHeartbeats 8000000 in
theorem rtimes_any (A B : Option Addr) (n c m d x y : Nat) (w : World) (hx : IsD w A n c x) (hy : IsD w B m d y) (hn : n ≤ 400) (hm : m ≤ 400) :
    Calls Tryz.prog 220 #[.slice A n c, .slice B m d] w (GivesD (x * y) w) := by
  obtain ⟨i0, hi, hz0, hz1, hz2⟩ := info_parts intInfo
  have hmx : Tryz.prog.follows .mixedOrders = true := by kernel_rfl
  obtain ⟨a, ha, na, va, _⟩ := hx
  obtain ⟨b, hb, nb, vb, _⟩ := hy
  have HA := Lib.hid ha
  have HBB := Lib.hid hb
  have hal := Lib.hid ha.len
  have hbl := Lib.hid hb.len
  have HV : Hid (val10 a * val10 b = x * y) := Lib.hid (by rw [va, vb])
  obtain ⟨L, hL⟩ : ∃ L, L = n + m := ⟨_, rfl⟩
  have hmk : ∀ W : World, (Instr.makeSlice 58 (.int .i64 ((n : Int) + (m : Int))) (.int .i64 ((n : Int) + (m : Int)))).run Tryz.prog W = .ok (.slice (some ⟨W.heap.size, 0, none⟩) L L) (W.alloc (.cells (ints (List.replicate L 0)).toArray 3)) := fun W => by
    rw [show (n : Int) + (m : Int) = (L : Int) by omega]
    exact make_ints L (by omega) i0 hi hz0 hz1 hz2 W
  have HL := Lib.hid hL
  have hL8 : L ≤ 800 := by omega
  clear ha hb va vb hL
  go_enter Tryz.func220, Tryz.ntmps220
  go_wp2
  clear hmk
  go_loopw [6] (fun i wr => ∃ (j : Nat) (o : List Nat), i = .int .i64 (j : Int) ∧ j ≤ n ∧ wr.heap[w.heap.size]? = some (.cells (ints o).toArray 3 (0, 0)) ∧ Below w.heap.size w wr ∧ Hid (TOut a b j o))
    (fun i _ => n - (RowKit.intOf i).toNat)
  case atStart => exact ⟨0, List.replicate L 0, rfl, by omega, heap_alloc_new _ _, (Below.refl _ _).alloc (Nat.le_refl _) _, ⟨by rw [List.length_replicate, HL.out, ← hal.out, ← hbl.out], small10_zeros _, by rw [val10_replicate]; simp [val10]⟩⟩
  case round =>
    obtain ⟨j, o, rfl, hj, harr, hB, hI⟩ := hrel
    obtain ⟨wo, rfl⟩ : ∃ wo : World, wo = wr := ⟨_, rfl⟩
    by_cases hjn : j < n
    · obtain ⟨ad, hA, hbl1, hc1⟩ := HA.out.cell j hjn
      subst hA
      go_wp2
      go_loopw [7, 8] (fun cv kv wr => ∃ (cr k : Nat) (o : List Nat), cv = .int .i64 (cr : Int) ∧ kv = .int .i64 (k : Int) ∧ wr.heap[w.heap.size]? = some (.cells (ints o).toArray 3 (0, 0)) ∧ Below w.heap.size w wr ∧ Hid (TIn a b j k cr o) ∧ cr ≤ 9 ∧ k ≤ m + 1)
        (fun _ kv _ => m + 2 - (RowKit.intOf kv).toNat)
      case atStart => exact ⟨0, 0, o, rfl, rfl, harr, hB, TIn.start hI.out, by omega, by omega⟩
      case round =>
        clear harr hB hI
        obtain ⟨cr, k, o, rfl, rfl, harr, hB, hI, hcr, hk⟩ := hrel
        have hst := fun h => hI.out.step na.1 nb.1 (by rw [← hal.out]; exact hjn) h
        have hoL : Hid (o.length = L) := Lib.hid (by rw [hI.out.len, HL.out, ← hal.out, ← hbl.out])
        by_cases hkm : k < m
        · obtain ⟨ad', hA', hbl2, hc2⟩ := HBB.out.cell k hkm
          subst hA'
          obtain ⟨hlt, hst'⟩ := hst (.inl (by rw [← hbl.out]; exact hkm))
          have g1 : wr.cell? (ad.add j) = some (.int .i64 ((a.getD j 0 : Nat) : Int)) := (hB.cell (by rw [block_of_add]; exact hbl1)).trans hc1
          have g2 : wr.cell? (ad'.add k) = some (.int .i64 ((b.getD k 0 : Nat) : Int)) := (hB.cell (by rw [block_of_add]; exact hbl2)).trans hc2
          have g3 := arr_cell harr hlt
          have g4 := arr_free harr (j + k)
          have hjk : j + k < L := by have := hoL.out; omega
          have hjkI : (j : Int) + (k : Int) < (L : Int) := by omega
          have b1 := na.1.get j
          have b3 := hI.out.small.get (j + k)
          have b2 := nb.1.get k
          have bp : a.getD j 0 * b.getD k 0 ≤ 9 * 9 := Nat.mul_le_mul (by omega) (by omega)
          obtain ⟨P, hP⟩ : ∃ P, P = a.getD j 0 * b.getD k 0 := ⟨_, rfl⟩
          have hw : IntKind.i64.wrap (((a.getD j 0 : Nat) : Int) * ((b.getD k 0 : Nat) : Int)) = (P : Int) := by
            have e : ((a.getD j 0 : Nat) : Int) * ((b.getD k 0 : Nat) : Int) = (P : Int) := by rw [hP]; simp
            rw [e, IntKind.wrap_i64]; omega
          obtain ⟨N, hN⟩ : ∃ N, N = o.getD (j + k) 0 + cr + P := ⟨_, rfl⟩
          rw [← hP, ← hN] at hst'
          have hs1 : IntKind.i64.wrap (((o.getD (j + k) 0 : Nat) : Int) + (cr : Int)) = ((o.getD (j + k) 0 : Nat) : Int) + (cr : Int) := by rw [IntKind.wrap_i64]; omega
          have hsum : IntKind.i64.wrap (((o.getD (j + k) 0 : Nat) : Int) + (cr : Int) + (P : Int)) = (N : Int) := by rw [IntKind.wrap_i64]; omega
          have hN9 : N ≤ 99 := by omega
          generalize a.getD j 0 = x1 at *
          generalize b.getD k 0 = y1 at *
          generalize o.getD (j + k) 0 = u at *
          have HST := Lib.hid hst'
          have hdv := Lib.hid (show (N : Int) / 10 = ((N / 10 : Nat) : Int) by omega)
          have hmd := Lib.hid (show (N : Int) % 10 = ((N % 10 : Nat) : Int) by omega)
          have hk1 : Hid (k ≤ m) := Lib.hid (by have h := HST.out.bound; rw [← hbl.out] at h; omega)
          clear hst' hN hst hlt
          clear hP bp b1 b2 b3
          go_wp2
          go_quiet (fail)
          go_wp2
          go_roundw
          case rel => exact ⟨N / 10, k + 1, o.set (j + k) (N % 10), by rw [hdv.out], by go_num, by rw [hmd.out]; exact arr_set (by exact harr) _ _, (below_drewN hB _).setCell (p := ⟨w.heap.size, j + k, none⟩) (Nat.le_refl _) _, HST, by omega, by have := hk1.out; omega⟩
          case measure => simp [RowKit.intOf]; omega
        · by_cases hc0 : 0 < cr
          · obtain ⟨hlt, hst'⟩ := hst (.inr hc0)
            have hcb : decide (0 < (cr : Int)) = true := by simp; omega
            have hcb2 : decide (0 < cr) = true := by simp; omega
            have g1 : wr.cell? (ad.add j) = some (.int .i64 ((a.getD j 0 : Nat) : Int)) := (hB.cell (by rw [block_of_add]; exact hbl1)).trans hc1
            have g3 := arr_cell harr hlt
            have g4 := arr_free harr (j + k)
            have hjk : j + k < L := by have := hoL.out; omega
            have hjkI : (j : Int) + (k : Int) < (L : Int) := by omega
            have b1 := na.1.get j
            have b3 := hI.out.small.get (j + k)
            have e0 : b.getD k 0 = 0 := by rw [List.getD_eq_getElem?_getD, List.getElem?_eq_none (by have := hbl.out; omega)]; rfl
            rw [e0, Nat.mul_zero, Nat.add_zero] at hst'
            obtain ⟨N, hN⟩ : ∃ N, N = o.getD (j + k) 0 + cr := ⟨_, rfl⟩
            rw [← hN] at hst'
            have hsum : ((o.getD (j + k) 0 : Nat) : Int) + (cr : Int) = (N : Int) := by omega
            have hN9 : N ≤ 99 := by omega
            generalize o.getD (j + k) 0 = u at *
            clear e0
            have HST := Lib.hid hst'
            have hdv := Lib.hid (show (N : Int) / 10 = ((N / 10 : Nat) : Int) by omega)
            have hmd := Lib.hid (show (N : Int) % 10 = ((N % 10 : Nat) : Int) by omega)
            have hk1 : Hid (k ≤ m) := Lib.hid (by have h := HST.out.bound; rw [← hbl.out] at h; omega)
            clear hst' hN hst hlt
            clear b1 b3
            go_wp2
            go_roundw
            case rel => exact ⟨N / 10, k + 1, o.set (j + k) (N % 10), by rw [hdv.out], by go_num, by rw [hmd.out]; exact arr_set (by exact harr) _ _, hB.setCell (p := ⟨w.heap.size, j + k, none⟩) (Nat.le_refl _) _, HST, by omega, by have := hk1.out; omega⟩
            case measure => simp [RowKit.intOf]; omega
          · obtain rfl : cr = 0 := by omega
            have hdone := Lib.hid (hI.out.done (by rw [← hbl.out]; omega))
            clear hst
            go_wp2
            go_roundw
            case rel => exact ⟨j + 1, o, by go_num, by omega, harr, hB, hdone⟩
            case measure => simp [RowKit.intOf]; omega
    · obtain rfl : j = n := by omega
      have ht := hI.out.eq
      rw [List.take_of_length_le (by rw [← hal.out]; exact Nat.le_refl _)] at ht
      have hfin := Lib.hid ht
      have hsm := hI.out.small
      have hoL : o.length = L := by rw [hI.out.len, HL.out, ← hal.out, ← hbl.out]
      have hnum : NumV wo (some ⟨w.heap.size, 0, none⟩) L o := by have := arr_num harr; rwa [hoL] at this
      clear ht hoL
      go_wp2_with (go_at_call 195; refine (trim_any (some ⟨w.heap.size, 0, none⟩) L L o _ hnum (by omega) (Nat.le_refl _) hsm).mono ?_; rintro e w2 ⟨⟨k', rfl, hk', hN', hnorm, hval⟩, rfl⟩)
      go_ret
      exact ⟨_, k', L, rfl, ⟨o.take k', hN', hnorm, by rw [hval, hfin.out]; exact HV.out, by omega⟩, hB, fun ad e => by injection e with e; subst e; exact Nat.le_refl _⟩
end Go.Proofs.YtngohpgkceedeaaGreatDoor
