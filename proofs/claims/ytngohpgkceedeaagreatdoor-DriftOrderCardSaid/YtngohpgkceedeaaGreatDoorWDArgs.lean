/-
  What the laws of drift share: contracts in the form in which the walks take them. DriftExact, plain: the least function that is possible, at the points and at a time. Arguments that are slices of arrays of integers, or slices of integers: what lies in memory.
-/
import Derived.Deep.Slices
import Derived.Test.YtngohpgkceedeaaGreatDoorWDPlain3
import Derived.Test.YtngohpgkceedeaaGreatDoorWQPlain7
import Derived.Test.YtngohpgkceedeaaGreatDoorWR12Made
import Derived.Test.YtngohpgkceedeaaGreatDoorWSane12
set_option linter.unusedSimpArgs false
set_option linter.unusedVariables false
namespace Go.Proofs.YtngohpgkceedeaaGreatDoor
open Go Go.RowKit Go.Lib Go.Shelf

theorem dat_off {r : Rat} {l : List Pt} (ho : Hist.Ok ⟨r, l⟩) {t : Nat} (ht : t ≤ 1000000) (p : Option Addr) (m c : Nat) (hm : l.length = m) (hx : ¬ (0 < m ∧ Free ⟨r, l⟩)) (w : World) (hp : PAt w p l) (he : Env w) :
    Calls Tryz.prog 31 #[.agg #[.string (S r.num), .string (S (r.den : Int)), .slice p m c], .int .i64 (t : Int)] w (AtErr w) := by
  rcases Nat.eq_zero_or_pos m with rfl | h
  · obtain rfl := List.length_eq_zero_iff.1 hm
    exact dat_empty ho _ p c w hp he
  · exact dat_bad ho (fun hf => hx ⟨h, hf⟩) ht p m c hm h w hp he
/-- A history that integers determine, with its length named. -/
theorem made_n {a b : Int} (ha : IsInt a) (hb : IsInt b) {f : Nat → Nat → Int} {px : Option Addr} {n cx : Nat} (hf : ∀ i j, i < n → j < 4 → IsInt (f i j)) (hn : n ≤ 9223372036854775807) {r : Rat} {l : List Pt} {m : Nat} (hr : madeRate a b = r) (hl : madeL f (min n 8) = l) (hm : l.length = m) (w : World) (hx : X4 w px n f) :
    Calls Tryz.prog 27 #[.agg #[.int .i64 a, .int .i64 b], .slice px n cx] w (fun e w' => ∃ p c, (PAt w' p l ∧ m ≤ c) ∧ e = .returned (.agg #[.string (S r.num), .string (S (r.den : Int)), .slice p m c]) ∧ Below w.heap.size w w') := by
  subst hr hl hm
  exact (r12made ha hb f px n cx hf hn w hx).mono fun e w' ⟨p, c, h1, h2, _, h3, h4⟩ => ⟨p, c, ⟨h1, h2⟩, h3, h4⟩
end Go.Proofs.YtngohpgkceedeaaGreatDoor
namespace Go.Proofs.YtngohpgkceedeaaGreatDoor
open Go Go.RowKit Go.Lib

def lowOf (r : Rat) (s : Nat) (p : Pt) : Rat := p.iv.lo - far r (dist p.t s)
/-- The greatest of what the value v at the time t, and the first points' lower ends, ask for at the time s. -/
def bst (r : Rat) (l : List Pt) (t : Nat) (v : Rat) (s : Nat) : Nat → Rat
  | 0 => v - far r (dist t s)
  | k + 1 => if 0 < cmpQ (lowOf r s (ptD l k)) (bst r l t v s k) then lowOf r s (ptD l k) else bst r l t v s k
theorem bst_asks (r : Rat) (l : List Pt) (t : Nat) (v : Rat) (s : Nat) : ∀ k, k ≤ l.length → Asks ⟨r, l⟩ t v s (l.take k) (bst r l t v s k)
  | 0, _ => by rw [List.take_zero]; exact Asks.start _ _ _ _
  | k + 1, h => by
    have ih := bst_asks r l t v s k (by omega)
    rw [isLo_take (r := 0) (t := 0) (show k < l.length by omega)]
    unfold bst
    split
    · rename_i hc; exact ih.gt (cmpQ_gt.1 hc)
    · rename_i hc; exact ih.le (cmpQ_le.1 (Int.not_lt.1 hc))
theorem bst_all (r : Rat) (l : List Pt) (t : Nat) (v : Rat) (s m : Nat) (hm : l.length = m) : Asks ⟨r, l⟩ t v s l (bst r l t v s m) := by
  have h := bst_asks r l t v s m (by omega)
  rwa [← hm, List.take_length, hm] at h
theorem far_dig2 {r : Rat} (h : QDig 2 r) {d : Nat} (hd : d ≤ 2000000) : QDig 9 (far r d) := by
  have dO : QDig 7 (Rat.divInt ((d : Nat) : Int) 1) := QDig.ofInt (by omega) (by unfold Dig; omega) (by unfold Dig; omega)
  have := QDig.mul (j := 2) (k := 7) h dO
  rwa [far_divInt] at this
theorem lowOf_dig {r : Rat} (h : QDig 2 r) {s : Nat} {p : Pt} (hs : s ≤ 1000000) (hp : p.t ≤ 1000000) (hi : IDig 2 p.iv) : QDig 58 (lowOf r s p) :=
  (QDig.sub (j := 2) (k := 9) hi.1 (far_dig2 h (by unfold dist; omega))).mono (by omega)
theorem bst_dig {r : Rat} (h : QDig 2 r) {l : List Pt} (hl : ∀ p, p ∈ l → p.t ≤ 1000000 ∧ IDig 2 p.iv) {t s : Nat} (ht : t ≤ 1000000) (hs : s ≤ 1000000) {v : Rat} (hv : QDig 48 v) : ∀ k, k ≤ l.length → QDig 58 (bst r l t v s k)
  | 0, _ => QDig.sub (j := 48) (k := 9) hv (far_dig2 h (by unfold dist; omega))
  | k + 1, hk => by
    have ih := bst_dig h hl ht hs hv k (by omega)
    obtain ⟨h1, h2⟩ := hl _ (ptD_mem (show k < l.length by omega))
    unfold bst
    split
    · exact lowOf_dig h hs h1 h2
    · exact ih
/-- The values, and the times, of the points, and at the end those asked for. -/
def exV (r : Rat) (l : List Pt) (t : Nat) (v : Rat) (m i : Nat) : Rat := if i < m then bst r l t v (ptD l i).t m else v
def exT (l : List Pt) (t m i : Nat) : Nat := if i < m then (ptD l i).t else t
theorem exV_lt {r : Rat} {l : List Pt} {t : Nat} {v : Rat} {m i : Nat} (h : i < m) : exV r l t v m i = bst r l t v (ptD l i).t m := if_pos h
/-- What the law knows of its history, time and value. -/
structure ExOk (r : Rat) (l : List Pt) (t : Nat) (v : Rat) (o : Iv) (m : Nat) : Prop where
  ok : Hist.Ok ⟨r, l⟩
  r2 : QDig 2 r
  ivs : ∀ p, p ∈ l → IDig 2 p.iv
  free : Free ⟨r, l⟩
  knows : Knows ⟨r, l⟩ t o
  has : o.Has v
  v48 : QDig 48 v
  ht : t ≤ 1000000
  len : l.length = m
theorem ExOk.contains {r : Rat} {l : List Pt} {t : Nat} {v : Rat} {o : Iv} {m i : Nat} (h : ExOk r l t v o m) (hi : i < m) : (ptD l i).iv.Has (exV r l t v m i) := by
  rw [exV_lt hi]
  exact Asks.has h.free h.knows h.has (ptD_mem (by rw [h.len]; exact hi)) (bst_all r l t v _ m h.len)
theorem ExOk.dig {r : Rat} {l : List Pt} {t : Nat} {v : Rat} {o : Iv} {m i : Nat} (h : ExOk r l t v o m) : QDig 58 (exV r l t v m i) := by
  unfold exV
  split
  · rename_i hi
    exact bst_dig h.r2 (fun p hp => ⟨h.ok.times p hp, h.ivs p hp⟩) h.ht (h.ok.times _ (ptD_mem (by rw [show (Hist.mk r l).pts = l from rfl, h.len]; exact hi))) h.v48 m (by rw [h.len]; exact Nat.le_refl _)
  · exact h.v48.mono (by omega)
theorem ExOk.slow {r : Rat} {l : List Pt} {t : Nat} {v : Rat} {o : Iv} {m : Nat} (h : ExOk r l t v o m) (i k : Nat) : exV r l t v m k - far r (dist (exT l t m k) (exT l t m i)) ≤ exV r l t v m i := by
  unfold exV exT
  split <;> split
  · exact Asks.slow (h := ⟨r, l⟩) h.ok.rate (bst_all r l t v _ m h.len) (bst_all r l t v _ m h.len)
  · exact Asks.to (h := ⟨r, l⟩) h.ok.rate h.knows h.has (bst_all r l t v _ m h.len)
  · exact Asks.from (bst_all r l t v _ m h.len)
  · have := far_nonneg h.ok.rate (dist t t)
    simp only at this
    grind
/-- Whether one of the first points is missed, by a value that is too great, or too small. -/
def exOver (r : Rat) (l : List Pt) (t : Nat) (a : Rat) : Nat → Bool
  | 0 => false
  | k + 1 => exOver r l t a k || decide (0 < cmpQ (a - far r (dist t (ptD l k).t)) (ptD l k).iv.hi)
theorem exOver_true {r : Rat} {l : List Pt} {t : Nat} {a : Rat} {i : Nat} (h : (ptD l i).iv.hi < a - far r (dist t (ptD l i).t)) : ∀ k, i < k → exOver r l t a k = true
  | 0, hi => by omega
  | k + 1, hi => by
    unfold exOver
    rcases Nat.lt_or_ge i k with hk | hk
    · rw [exOver_true h k hk]; rfl
    · obtain rfl : i = k := by omega
      rw [decide_eq_true (cmpQ_gt.2 h)]; simp
theorem ExOk.over {r : Rat} {l : List Pt} {t : Nat} {v : Rat} {o : Iv} {m : Nat} (h : ExOk r l t v o m) : exOver r l t (o.hi + Rat.divInt 1 1000) m = true := by
  obtain ⟨p, hp, e⟩ := Knows.over h.knows (e := Rat.divInt 1 1000) (by decide +kernel)
  obtain ⟨i, hi, rfl⟩ := mem_ptD hp
  exact exOver_true e m (by rw [← h.len]; exact hi)
/-- A row that is owned keeps its cells through a store elsewhere. -/
theorem own_set_ge {W : World} {base k n n1 b i : Nat} {T : TypeId} {v u : Value} {xs : List Value} (h : W.ownsRow base T k v n xs) (hv : ∀ g, v.ownBlock = some g → g < n1) (hb : n1 ≤ b) : (W.setCell ⟨b, i, none⟩ u).ownsRow base T k v n xs := by
  obtain ⟨hl, h⟩ := h
  refine ⟨hl, ?_⟩
  rcases h with h | ⟨g, cap, cur, rfl, hb0, hg, h1, h2, h3, hx⟩
  · exact .inl h
  · have hne : g ≠ b := fun e => by have := hv g rfl; omega
    have hr : Row W g (.cells cur T) := ⟨(Array.getElem?_eq_some_iff.1 hg).1, hg⟩
    have hr2 : Row (W.setCell ⟨b, i, none⟩ u) g (.cells cur T) := by first | exact Row.set_other hr u hne | exact Row.set_other hr u (fun e => hne e.symm)
    exact .inr ⟨g, cap, cur, rfl, hb0, hr2.2, h1, h2, h3, hx⟩
end Go.Proofs.YtngohpgkceedeaaGreatDoor
namespace Go.Proofs.YtngohpgkceedeaaGreatDoor
open Go Go.RowKit Go.Lib Go.ChangeShapes Go.WideShapes

/-- Integers k by k, in memory. -/
def XK (k : Nat) (W : World) (p : Option Addr) (n : Nat) (f : Nat → Nat → Int) : Prop := n = 0 ∨ ∃ g o, p = some ⟨g, o, none⟩ ∧ g < W.heap.size ∧ ∀ i j, i < n → j < k → W.cell? ⟨g, o + i * k + j, none⟩ = some (.int .i64 (f i j))
theorem XK.below {k : Nat} {W W' : World} {p : Option Addr} {n : Nat} {f : Nat → Nat → Int} (h : XK k W p n f) (hB : Below W.heap.size W W') : XK k W' p n f :=
  h.elim .inl fun ⟨g, o, e, hg, hc⟩ => .inr ⟨g, o, e, Nat.lt_of_lt_of_le hg hB.size, fun i j hi hj => (hB.cell (p := ⟨g, _, none⟩) hg).trans (hc i j hi hj)⟩
theorem cellLt {W : World} {a : Addr} {v : Value} (h : W.cell? a = some v) : a.block < W.heap.size := by
  unfold World.cell? at h
  by_cases hb : a.block < W.heap.size
  · exact hb
  · have : W.heap[a.block]? = none := by simpa using hb
    rw [this] at h
    simp at h
theorem trodLt {H : Type} {enc : TypeId × Value → H} {W : World} {t : TypeId} {v : Value} {d : DataW H} {ps : List MemPlace} (h : DataW.Trod enc Tryz.prog W 0 (fun _ => true) true t v d ps) : ∀ x ∈ ps, x.block < W.heap.size := fun x hx => by
  obtain ⟨n, h⟩ := h
  exact DataW.trod_lt n _ _ _ h x hx
set_option maxRecDepth 100000 in
/-- An argument that is a slice of arrays of k integers. -/
theorem open_rowsK {H : Type} {enc : TypeId × Value → H} {W : World} {k : Nat} {t e : TypeId} (ht : Tryz.prog.underlying t = some (.slice e)) (he : Tryz.prog.underlying e = some (.array k 3)) (hc : Tryz.prog.cellsOf e = k) (hk : 0 < k)
    {v : Value} {d : DataW H} {ps : List MemPlace} {base : Nat} (hv : Value.okWide Tryz.prog W .any base t v) (h : DataW.Trod enc Tryz.prog W 0 (fun _ => true) true t v d ps) :
    ∃ p n c f, v = .slice p n c ∧ n ≤ 9223372036854775807 ∧ XK k W p n f ∧ ∀ i j, i < n → j < k → IsInt (f i j) := by
  obtain ⟨p, n, c, rfl⟩ := okWide_slice ht hv
  obtain ⟨fuel, hf⟩ := h
  have ci : Tryz.prog.cellsOf 3 = 1 := by kernel_rfl
  rcases Go.Deep.open_slice ht hf with ⟨h0, _⟩ | ⟨a, len, cap, m, nf, D, Pl, h0, hb, hl, hm, hmm, _, hx⟩
  · simp [Value.cells] at h0
    obtain ⟨rfl, rfl, rfl⟩ := h0
    exact ⟨none, 0, 0, fun _ _ => 0, rfl, by omega, .inl rfl, by omega⟩
  · simp [Value.cells] at h0
    obtain ⟨rfl, rfl, rfl⟩ := h0
    rw [hc] at hx
    have hmn : n ≤ m := by rw [hmm]; simpa using hl
    have key : ∀ i, i < n → ∃ g : Nat → Int, ∀ j, j < k → W.cell? ((a.add (i * k)).add j) = some (.int .i64 (g j)) ∧ IsInt (g j) := by
      intro i hi
      obtain ⟨cs', h1, h2⟩ := hx i (by omega)
      obtain ⟨_, hlen, hcell⟩ := World.cells?_some h1
      obtain ⟨ys, m', _, _, _, hy, hj⟩ := DataW.trod_array he h2
      obtain ⟨g, hg⟩ := Go.Deep.choose_lt (α := Int) (n := k) (p := fun j z => cs'[j]? = some (.int .i64 z) ∧ IsInt z) (fun j hjk => by
        have e1 := hj j hjk
        rw [ci, Nat.mul_one] at e1
        rw [List.getElem?_eq_getElem (show j < ys.length by omega)] at e1
        obtain ⟨z, ez, _, hz⟩ := DataW.trod_int Tryz.underlying3 e1
        refine ⟨z, ?_, isInt_wf hz⟩
        have e2 := congrArg (fun l => l[0]?) ez
        simpa using e2)
      exact ⟨g, fun j hjk => ⟨(hcell j hjk).trans (hg j hjk).1, (hg j hjk).2⟩⟩
    obtain ⟨F, hF⟩ := Go.Deep.choose_lt (α := Nat → Int) key
    refine ⟨some a, n, c, F, rfl, ?_, ?_, fun i j hi hj => (hF i hi j hj).2⟩
    · have : maxLen = 9223372036854775807 := by decide
      omega
    · by_cases hn : n = 0
      · exact .inl hn
      right
      obtain ⟨b, o, s⟩ := a
      have h00 := (hF 0 (by omega) 0 hk).1
      have hs : s = none := by simpa [Addr.add] using World.cell?_spot h00
      subst hs
      have ea : ∀ x : Nat, (⟨b, o, none⟩ : Addr).add x = ⟨b, o + x, none⟩ := fun x => by unfold Addr.add; split <;> simp_all
      have eb : ∀ y x : Nat, (⟨b, y, none⟩ : Addr).add x = ⟨b, y + x, none⟩ := fun y x => by unfold Addr.add; split <;> simp_all
      refine ⟨b, o, rfl, by have := cellLt h00; rwa [ea, eb] at this, fun i j hi hj => ?_⟩
      have := (hF i hi j hj).1
      rwa [ea, eb] at this
set_option maxRecDepth 100000 in
/-- An argument that is a slice of integers. -/
theorem open_intsL {H : Type} {enc : TypeId × Value → H} {W : World}
    {v : Value} {d : DataW H} {ps : List MemPlace} {base : Nat} (hv : Value.okWide Tryz.prog W .any base 58 v) (h : DataW.Trod enc Tryz.prog W 0 (fun _ => true) true 58 v d ps) :
    ∃ p n c f, v = .slice p n c ∧ n ≤ 9223372036854775807 ∧ XK 1 W p n f ∧ ∀ i j, i < n → j < 1 → IsInt (f i j) := by
  have ht : Tryz.prog.underlying 58 = some (.slice 3) := by kernel_rfl
  have hc : Tryz.prog.cellsOf 3 = 1 := by kernel_rfl
  obtain ⟨p, n, c, rfl⟩ := okWide_slice ht hv
  obtain ⟨fuel, hf⟩ := h
  rcases Go.Deep.open_slice1 ht hc hf with ⟨h0, _⟩ | ⟨a, len, cap, m, nf, V, D, Pl, h0, hb, hl, hm, hmm, _, hx⟩
  · simp [Value.cells] at h0
    obtain ⟨rfl, rfl, rfl⟩ := h0
    exact ⟨none, 0, 0, fun _ _ => 0, rfl, by omega, .inl rfl, by omega⟩
  · simp [Value.cells] at h0
    obtain ⟨rfl, rfl, rfl⟩ := h0
    have hmn : n ≤ m := by rw [hmm]; simpa using hl
    obtain ⟨F, hF⟩ := Go.Deep.choose_lt (α := Int) (n := n) (p := fun i z => W.cell? (a.add i) = some (.int .i64 z) ∧ IsInt z) (fun i hi => by
      obtain ⟨h1, h2⟩ := hx i (by omega)
      obtain ⟨z, ez, _, hz⟩ := DataW.trod_int Tryz.underlying3 h2
      refine ⟨z, ?_, isInt_wf hz⟩
      rw [h1]
      simpa using ez)
    refine ⟨some a, n, c, fun i _ => F i, rfl, ?_, ?_, fun i j hi hj => (hF i hi).2⟩
    · have : maxLen = 9223372036854775807 := by decide
      omega
    · by_cases hn : n = 0
      · exact .inl hn
      right
      obtain ⟨b, o, s⟩ := a
      have h00 := (hF 0 (by omega)).1
      have hs : s = none := by simpa [Addr.add] using World.cell?_spot h00
      subst hs
      have eb : ∀ y x : Nat, (⟨b, y, none⟩ : Addr).add x = ⟨b, y + x, none⟩ := fun y x => by unfold Addr.add; split <;> simp_all
      refine ⟨b, o, rfl, by have := cellLt h00; rwa [eb] at this, fun i j hi hj => ?_⟩
      have := (hF i hi).1
      rw [eb] at this
      rw [show o + i * 1 + j = o + i by omega]
      exact this
end Go.Proofs.YtngohpgkceedeaaGreatDoor
