/-
  DriftTrue, plain: a true value that changes by parts of the rate, and calibrations with errors.
-/
import Derived.Test.YtngohpgkceedeaaGreatDoorKR12Made
set_option linter.unusedSimpArgs false
set_option linter.unusedVariables false
namespace Go.Proofs.YtngohpgkceedeaaGreatDoor
open Go Go.RowKit Go.Lib

/-- The sum of the first changes, in quarters of the rate. -/
def kSum (f : Nat → Nat → Int) : Nat → Int
  | 0 => 0
  | i + 1 => kSum f i + (pk (f i 0) 9 - 4)
def vTrue (r v0 : Rat) (f : Nat → Nat → Int) (i : Nat) : Rat := v0 + r * Rat.divInt (kSum f i) 4
theorem divInt_add4 (a b : Int) : Rat.divInt (a + b) 4 = Rat.divInt a 4 + Rat.divInt b 4 := by
  rw [Rat.divInt_eq_div, Rat.divInt_eq_div, Rat.divInt_eq_div]
  push_cast
  grind
theorem vTrue_zero (r v0 : Rat) (f : Nat → Nat → Int) : vTrue r v0 f 0 = v0 := by
  unfold vTrue kSum
  have : Rat.divInt 0 4 = 0 := by decide +kernel
  rw [this]; grind
theorem vTrue_succ (r v0 : Rat) (f : Nat → Nat → Int) (i : Nat) : vTrue r v0 f i + r * Rat.divInt (pk (f i 0) 9 - 4) 4 = vTrue r v0 f (i + 1) := by
  show _ = v0 + r * Rat.divInt (kSum f i + (pk (f i 0) 9 - 4)) 4
  rw [divInt_add4]
  unfold vTrue
  grind
theorem kSum_bound (f : Nat → Nat → Int) : ∀ i : Nat, -(4 * (i : Int)) ≤ kSum f i ∧ kSum f i ≤ 4 * (i : Int)
  | 0 => by simp [kSum]
  | i + 1 => by
    have h := kSum_bound f i
    have h1 := pk_nonneg (f i 0) (n := 9) (by decide); have h2 := pk_lt (f i 0) (n := 9) (by decide)
    unfold kSum
    push_cast
    omega
theorem kSum_slow (f : Nat → Nat → Int) (i : Nat) : ∀ n : Nat, -(4 * (n : Int)) ≤ kSum f (i + n) - kSum f i ∧ kSum f (i + n) - kSum f i ≤ 4 * (n : Int)
  | 0 => by simp
  | n + 1 => by
    have h := kSum_slow f i n
    have h1 := pk_nonneg (f (i + n) 0) (n := 9) (by decide); have h2 := pk_lt (f (i + n) 0) (n := 9) (by decide)
    have e : kSum f (i + (n + 1)) = kSum f (i + n) + (pk (f (i + n) 0) 9 - 4) := rfl
    rw [e]
    push_cast
    omega
theorem kSum_dist (f : Nat → Nat → Int) (i k : Nat) : kSum f i - kSum f k ≤ 4 * ((dist i k : Nat) : Int) := by
  rcases Nat.le_total i k with h | h
  · obtain ⟨n, rfl⟩ : ∃ n, k = i + n := ⟨k - i, by omega⟩
    have := (kSum_slow f i n).1
    unfold dist; omega
  · obtain ⟨n, rfl⟩ : ∃ n, i = k + n := ⟨i - k, by omega⟩
    have := (kSum_slow f k n).2
    unfold dist; omega
theorem vTrue_slow {r : Rat} (hr : 0 ≤ r) (v0 : Rat) (f : Nat → Nat → Int) (i k : Nat) : vTrue r v0 f i - vTrue r v0 f k ≤ far r (dist i k) := by
  have h := kSum_dist f i k
  have e : vTrue r v0 f i - vTrue r v0 f k = r * Rat.divInt (kSum f i - kSum f k) 4 := by
    have := divInt_add4 (kSum f i - kSum f k) (kSum f k)
    rw [show kSum f i - kSum f k + kSum f k = kSum f i by omega] at this
    unfold vTrue
    rw [this]; grind
  rw [e]
  refine Rat.mul_le_mul_of_nonneg_left ?_ hr
  have h2 := divInt_mn (d := 4) (by decide) h
  refine Rat.le_trans h2 ?_
  have e2 : Rat.divInt (4 * ((dist i k : Nat) : Int)) 4 = ((dist i k : Nat) : Rat) := by
    rw [Rat.divInt_eq_div]; push_cast; grind
  rw [e2]; exact Rat.le_refl
theorem vTrue_dig {n d s : Int} (n0 : 0 ≤ n) (n8 : n ≤ 8) (d1 : 1 ≤ d) (d9 : d ≤ 9) (s0 : 0 ≤ s) (s9 : s ≤ 99) (f : Nat → Nat → Int) {i : Nat} (hi : i ≤ 60) : QDig 5 (vTrue (Rat.divInt n d) (Rat.divInt s 7) f i) := by
  have hb := kSum_bound f i
  have b1 : -240 ≤ kSum f i := by omega
  have b2 : kSum f i ≤ 240 := by omega
  unfold vTrue
  generalize kSum f i = K at *
  have e : Rat.divInt s 7 + Rat.divInt n d * Rat.divInt K 4 = Rat.divInt (4 * (d * s) + 7 * (n * K)) (28 * d) := by
    have hd : (d : Rat) ≠ 0 := by
      intro h
      have : d = 0 := by exact_mod_cast h
      omega
    rw [Rat.divInt_eq_div, Rat.divInt_eq_div, Rat.divInt_eq_div, Rat.divInt_eq_div]
    push_cast
    grind
  rw [e]
  have h1 : d * s ≤ 9 * 99 := Int.mul_le_mul d9 s9 s0 (by decide)
  have h2 : 0 ≤ d * s := Int.mul_nonneg (by omega) s0
  have h3 : n * K ≤ n * 240 := Int.mul_le_mul_of_nonneg_left b2 n0
  have h4 : n * (-240) ≤ n * K := Int.mul_le_mul_of_nonneg_left b1 n0
  generalize d * s = x at *
  generalize n * K = y at *
  exact QDig.ofInt (by omega) (by unfold Dig; omega) (by unfold Dig; omega)
/-- A calibration with errors. -/
def truePt (f : Nat → Nat → Int) (V : Nat → Rat) (N j : Nat) : Pt :=
  ⟨(pk (f j 0) N).toNat, ⟨V (pk (f j 0) N).toNat - Rat.divInt (pk (f j 1) 9) 5, V (pk (f j 0) N).toNat + Rat.divInt (pk (f j 2) 9) 5⟩⟩
def trueL (f : Nat → Nat → Int) (V : Nat → Rat) (N : Nat) : Nat → List Pt
  | 0 => []
  | j + 1 => ins (trueL f V N j) (truePt f V N j)
theorem truePt_ok (f : Nat → Nat → Int) {V : Nat → Rat} {N : Nat} (hN : 0 < N) (hV : ∀ i, i < N → QDig 5 (V i)) (h61 : N ≤ 61) (j : Nat) :
    (truePt f V N j).t < N ∧ (truePt f V N j).iv.Has (V (truePt f V N j).t) ∧ (truePt f V N j).iv.Ok ∧ IDig 7 (truePt f V N j).iv := by
  have a1 := pk_nonneg (f j 0) (n := (N : Int)) (by omega); have a2 := pk_lt (f j 0) (n := (N : Int)) (by omega)
  have b1 := pk_nonneg (f j 1) (n := 9) (by decide); have b2 := pk_lt (f j 1) (n := 9) (by decide)
  have c1 := pk_nonneg (f j 2) (n := 9) (by decide); have c2 := pk_lt (f j 2) (n := 9) (by decide)
  have hb := divInt_nn (d := 5) (by decide) b1
  have hc := divInt_nn (d := 5) (by decide) c1
  have db : QDig 1 (Rat.divInt (pk (f j 1) 9) 5) := QDig.ofInt (by decide) (by unfold Dig; omega) (by unfold Dig; omega)
  have dc : QDig 1 (Rat.divInt (pk (f j 2) 9) 5) := QDig.ofInt (by decide) (by unfold Dig; omega) (by unfold Dig; omega)
  have ht : (pk (f j 0) N).toNat < N := by omega
  have dv := hV _ ht
  unfold truePt
  refine ⟨ht, ⟨?_, ?_⟩, ?_, QDig.sub (j := 5) (k := 1) dv db, QDig.add (j := 5) (k := 1) dv dc⟩
  · show V _ - _ ≤ V _; grind
  · show V _ ≤ V _ + _; grind
  · show V _ - _ ≤ V _ + _; grind
structure HTrue (h : Hist) (V : Nat → Rat) (N : Nat) : Prop where
  ok : h.Ok
  honest : Honest h V N
  ivs : ∀ p, p ∈ h.pts → IDig 7 p.iv
  few : h.pts.length ≤ 8
theorem true_ok {r : Rat} (hr : 0 ≤ r) (hd : QDig 40 r) (f : Nat → Nat → Int) {V : Nat → Rat} {N : Nat} (hN : 0 < N) (h61 : N ≤ 61) (hV : ∀ i, i < N → QDig 5 (V i)) (hs : ∀ i k, i < N → k < N → V i - V k ≤ far r (dist i k)) :
    ∀ j, j ≤ 8 → HTrue ⟨r, trueL f V N j⟩ V N ∧ (trueL f V N j).length = j
  | 0, _ => ⟨⟨⟨hr, hd, by simp [trueL], by simp [trueL], by simp [trueL], by simp [trueL]⟩, ⟨hs, by simp [trueL]⟩, by simp [trueL], by simp [trueL]⟩, rfl⟩
  | j + 1, hj => by
    obtain ⟨h, hl⟩ := true_ok hr hd f hN h61 hV hs j (by omega)
    obtain ⟨p1, p2, p3, p4⟩ := truePt_ok f hN hV h61 j
    refine ⟨⟨ins_ok h.ok (by rw [show (Hist.mk r (trueL f V N j)).pts = trueL f V N j from rfl, hl]; omega) (by omega) ⟨p3, p4.mono (by omega)⟩, ⟨hs, fun q hq => ?_⟩, fun q hq => ?_, ?_⟩, ?_⟩
    · rcases mem_ins.1 hq with rfl | hq
      · exact ⟨p1, p2⟩
      · exact h.honest.seen q hq
    · rcases mem_ins.1 hq with rfl | hq
      · exact p4
      · exact h.ivs q hq
    · show (ins (trueL f V N j) (truePt f V N j)).length ≤ 8
      rw [ins_length, hl]; omega
    · show (ins (trueL f V N j) (truePt f V N j)).length = j + 1
      rw [ins_length, hl]
/-- Fractions in memory. -/
def rCells (V : Nat → Rat) : Nat → List Value
  | 0 => []
  | n + 1 => rCells V n ++ [.string (S (V n).num), .string (S ((V n).den : Int))]
theorem rCells_length (V : Nat → Rat) : ∀ n, (rCells V n).length = n * 2
  | 0 => rfl
  | n + 1 => by unfold rCells; rw [List.length_append, rCells_length V n]; simp; omega
theorem rCells_get (V : Nat → Rat) : ∀ n i, i < n → (rCells V n)[i * 2]? = some (.string (S (V i).num)) ∧ (rCells V n)[i * 2 + 1]? = some (.string (S ((V i).den : Int)))
  | 0, i, h => by omega
  | n + 1, i, h => by
    unfold rCells
    have hl := rCells_length V n
    rcases Nat.lt_or_ge i n with hi | hi
    · obtain ⟨h1, h2⟩ := rCells_get V n i hi
      exact ⟨by rw [List.getElem?_append_left (by omega)]; exact h1, by rw [List.getElem?_append_left (by omega)]; exact h2⟩
    · obtain rfl : i = n := by omega
      exact ⟨by rw [List.getElem?_append_right (by omega), hl]; simp, by rw [List.getElem?_append_right (by omega), hl]; simp⟩
theorem own_split {W : World} {base k n : Nat} {T : TypeId} {v : Value} {xs : List Value} (hn : 0 < n) (h : W.ownsRow base T k v n xs) :
    ∃ g cap cur, v = .slice (some ⟨g, 0, none⟩) n cap ∧ base ≤ g ∧ Row W g (.cells cur T) ∧ cur.toList.take (n * k) = xs ∧ ∀ W', Row W' g (.cells cur T) → W'.ownsRow base T k (.slice (some ⟨g, 0, none⟩) n cap) n xs := by
  obtain ⟨hl, h⟩ := h
  rcases h with ⟨_, rfl⟩ | ⟨g, cap, cur, rfl, hb, hg, h1, h2, h3, hx⟩
  · omega
  · exact ⟨g, cap, cur, rfl, hb, ⟨(Array.getElem?_eq_some_iff.1 hg).1, hg⟩, hx, fun W' hr => ⟨hl, .inr ⟨g, cap, cur, rfl, hb, hr.2, h1, h2, h3, hx⟩⟩⟩
theorem own_one {W : World} {base g : Nat} {T : TypeId} {a b : Value} (r : Row W g (.cells #[a, b] T)) (hb : base ≤ g) : W.ownsRow base T 2 (.slice (some ⟨g, 0, none⟩) 1 1) 1 [a, b] :=
  ⟨rfl, .inr ⟨g, 1, _, rfl, hb, r.2, Nat.le_refl _, by decide, rfl, rfl⟩⟩
theorem own_vals {W : World} {g n : Nat} {cur : Array Value} {V : Nat → Rat} {T : TypeId} (r : Row W g (.cells cur T)) (hx : cur.toList.take (n * 2) = rCells V n) {i : Nat} (hi : i < n) :
    cur[i * 2]? = some (.string (S (V i).num)) ∧ cur[i * 2 + 1]? = some (.string (S ((V i).den : Int))) := by
  obtain ⟨h1, h2⟩ := rCells_get V n i hi
  rw [← hx] at h1 h2
  rw [List.getElem?_take, if_pos (by omega), Array.getElem?_toList] at h1 h2
  exact ⟨h1, h2⟩
theorem reads_two (X : World) (a b : Value) (T : TypeId) : Reads (X.alloc (.cells #[a, b] T)) (X.heap.size + 1) 2 (some ⟨X.heap.size, 0, none⟩) 1 [a, b] :=
  ⟨rfl, fun _ => ⟨_, rfl, Nat.lt_succ_self _, fun j u hu => by rw [Addr.add_lit, Nat.zero_add]; exact Row.cell_at (row_new X _) j (by simpa using hu)⟩⟩
theorem row_set3_ne {W : World} {g b : Nat} {cur vs : Array Value} {T T' : TypeId} {u0 u1 u2 : Value} (r : Row W g (.cells cur T)) (r2 : Row W b (.cells vs T')) (hne : T' ≠ T) : Row (((W.setCell ⟨b, 0, none⟩ u0).setCell ⟨b, 1, none⟩ u1).setCell ⟨b, 2, none⟩ u2) g (.cells cur T) := by
  have h : g ≠ b := fun e => by subst e; have := r.2.symm.trans r2.2; simp at this; exact hne this.2.symm
  refine Row.set_other (Row.set_other (Row.set_other r u0 ?_) u1 ?_) u2 ?_ <;> first | exact h | exact fun e => h e.symm
theorem ratioInfo : (Tryz.prog.info? 26).map (fun i => (i.zero, i.size, i.bytes)) = some (some (.agg #[.string ⟨#[]⟩, .string ⟨#[]⟩]), 2, 32) := by kernel_rfl
end Go.Proofs.YtngohpgkceedeaaGreatDoor
