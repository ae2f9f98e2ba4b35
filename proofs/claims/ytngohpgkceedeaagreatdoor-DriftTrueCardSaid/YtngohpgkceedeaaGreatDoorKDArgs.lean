/-
  What the laws of drift share: contracts in the form in which the walks take them. Arguments that are slices of arrays of integers, or slices of integers: what lies in memory.
-/
import Derived.Deep.Slices
import Derived.Test.YtngohpgkceedeaaGreatDoorKDPlain
import Derived.Test.YtngohpgkceedeaaGreatDoorKDSanePlain
import Derived.Test.YtngohpgkceedeaaGreatDoorKR12Made
import Derived.Test.YtngohpgkceedeaaGreatDoorKSane12
set_option linter.unusedSimpArgs false
set_option linter.unusedVariables false
namespace Go.Proofs.YtngohpgkceedeaaGreatDoor
open Go Go.RowKit Go.Lib Go.Shelf

theorem dcons_say {r : Rat} {l : List Pt} {n : Nat} (hn : (cons ⟨r, l⟩).length = n) (ho : Hist.Ok ⟨r, l⟩) (p : Option Addr) (m c : Nat) (hm : l.length = m) (w : World) (hp : PAt w p l) (he : Env w) :
    Calls Tryz.prog 40 #[.agg #[.string (S r.num), .string (S (r.den : Int)), .slice p m c]] w (fun e w' => ∃ v, e = .returned v ∧ SaySl n v w' ∧ Below w.heap.size w w') := by
  subst hn
  exact (dcons ho p m c hm w hp he).mono fun e w' ⟨v, hown, h1, h2⟩ => ⟨v, h1, by
    rcases hown.2 with ⟨h, h0⟩ | ⟨g, cap, cur, h, _⟩
    · exact ⟨none, 0, by rw [h0]; exact h⟩
    · exact ⟨_, cap, h⟩, h2⟩
theorem dadd_n {r : Rat} {l l' : List Pt} {a : Pt} {n : Nat} (hl : ins l a = l') (hn : l'.length = n) (ho : Hist.Ok ⟨r, l⟩) (hoi : Hist.Ok ⟨r, l'⟩) (p : Option Addr) (m c : Nat) (hm : l.length = m) (w : World) (hp : PAt w p l) (he : Env w) :
    Calls Tryz.prog 38 #[.agg #[.string (S r.num), .string (S (r.den : Int)), .slice p m c], .agg #[.int .i64 (a.t : Int), .string (S a.iv.lo.num), .string (S (a.iv.lo.den : Int)), .string (S a.iv.hi.num), .string (S (a.iv.hi.den : Int))]] w (fun e w' => ∃ p c, PAt w' p l' ∧ e = .returned (.tuple #[.agg #[.string (S r.num), .string (S (r.den : Int)), .slice p n c], .int .i64 0]) ∧ Below w.heap.size w w') := by
  subst hn hl
  exact (dadd ho hoi p m c hm w hp he).mono fun e w' ⟨p', c', hown, h1, h2⟩ => ⟨p', c', own_patR hown rfl, h1, h2⟩
theorem pat_set2 {W : World} {p : Option Addr} {l : List Pt} {b : Nat} {vs : Array Value} {T : TypeId} {u0 u1 : Value} (h : PAt W p l) (r : Row W b (.cells vs T)) (hne : T ≠ 53) : PAt ((W.setCell ⟨b, 0, none⟩ u0).setCell ⟨b, 1, none⟩ u1) p l :=
  pat_set (pat_set h r hne _ _) (r.set_same rfl) hne _ _
theorem pat_set4 {W : World} {p : Option Addr} {l : List Pt} {b : Nat} {vs : Array Value} {T : TypeId} {u0 u1 u2 u3 : Value} (h : PAt W p l) (r : Row W b (.cells vs T)) (hne : T ≠ 53) : PAt ((((W.setCell ⟨b, 0, none⟩ u0).setCell ⟨b, 1, none⟩ u1).setCell ⟨b, 2, none⟩ u2).setCell ⟨b, 3, none⟩ u3) p l :=
  pat_set (pat_set3 h r hne) (((r.set_same rfl).set_same rfl).set_same rfl) hne _ _
theorem dat_off {r : Rat} {l : List Pt} (ho : Hist.Ok ⟨r, l⟩) {t : Nat} (ht : t ≤ 1000000) (p : Option Addr) (m c : Nat) (hm : l.length = m) (hx : ¬ (0 < m ∧ Free ⟨r, l⟩)) (w : World) (hp : PAt w p l) (he : Env w) :
    Calls Tryz.prog 31 #[.agg #[.string (S r.num), .string (S (r.den : Int)), .slice p m c], .int .i64 (t : Int)] w (AtErr w) := by
  rcases Nat.eq_zero_or_pos m with rfl | h
  · obtain rfl := List.length_eq_zero_iff.1 hm
    exact dat_empty ho _ p c w hp he
  · exact dat_bad ho (fun hf => hx ⟨h, hf⟩) ht p m c hm h w hp he
theorem dcons_n {r : Rat} {l : List Pt} (ho : Hist.Ok ⟨r, l⟩) (p : Option Addr) (m c : Nat) (hm : l.length = m) (w : World) (hp : PAt w p l) (he : Env w) :
    Calls Tryz.prog 40 #[.agg #[.string (S r.num), .string (S (r.den : Int)), .slice p m c]] w (fun e w' => ∃ p n c, (n = 0 ↔ Free ⟨r, l⟩) ∧ e = .returned (.slice p n c) ∧ Below w.heap.size w w') :=
  (dcons_say rfl ho p m c hm w hp he).mono fun e w' ⟨v, h1, ⟨p, c, h⟩, h2⟩ => ⟨p, _, c, by rw [List.length_eq_zero_iff, cons_nil ho], by rw [h1, h], h2⟩
/-- A history that integers determine, with its length named. -/
theorem made_n {a b : Int} (ha : IsInt a) (hb : IsInt b) {f : Nat → Nat → Int} {px : Option Addr} {n cx : Nat} (hf : ∀ i j, i < n → j < 4 → IsInt (f i j)) (hn : n ≤ 9223372036854775807) {r : Rat} {l : List Pt} {m : Nat} (hr : madeRate a b = r) (hl : madeL f (min n 8) = l) (hm : l.length = m) (w : World) (hx : X4 w px n f) :
    Calls Tryz.prog 27 #[.agg #[.int .i64 a, .int .i64 b], .slice px n cx] w (fun e w' => ∃ p c, (PAt w' p l ∧ m ≤ c) ∧ e = .returned (.agg #[.string (S r.num), .string (S (r.den : Int)), .slice p m c]) ∧ Below w.heap.size w w') := by
  subst hr hl hm
  exact (r12made ha hb f px n cx hf hn w hx).mono fun e w' ⟨p, c, h1, h2, _, h3, h4⟩ => ⟨p, c, ⟨h1, h2⟩, h3, h4⟩
theorem known_dig {r : Rat} {l : List Pt} {t : Nat} {o : Iv} (hr : QDig 5 r) (hi : ∀ p, p ∈ l → IDig 2 p.iv) (ht : t ≤ 1000000) (htm : ∀ p, p ∈ l → p.t ≤ 1000000) (hk : Knows ⟨r, l⟩ t o) : IDig 15 o :=
  Knows.dig (j := 2) (k := 5) hk hr hi ht htm
theorem ok_rate {r s : Rat} {l : List Pt} (ho : Hist.Ok ⟨r, l⟩) (hs : 0 ≤ s) (hd : QDig 40 s) : Hist.Ok ⟨s, l⟩ := ⟨hs, hd, ho.few, ho.times, ho.ivs, ho.sorted⟩
end Go.Proofs.YtngohpgkceedeaaGreatDoor
namespace Go.Proofs.YtngohpgkceedeaaGreatDoor
open Go Go.RowKit Go.Lib Go.ChangeShapes Go.WideShapes

/-- Integers k by k, in memory. -/
def XK (k : Nat) (W : World) (p : Option Addr) (n : Nat) (f : Nat → Nat → Int) : Prop := n = 0 ∨ ∃ g o, p = some ⟨g, o, none⟩ ∧ g < W.heap.size ∧ ∀ i j, i < n → j < k → W.cell? ⟨g, o + i * k + j, none⟩ = some (.int .i64 (f i j))
theorem XK.below {k : Nat} {W W' : World} {p : Option Addr} {n : Nat} {f : Nat → Nat → Int} (h : XK k W p n f) (hB : Below W.heap.size W W') : XK k W' p n f :=
  h.elim .inl fun ⟨g, o, e, hg, hc⟩ => .inr ⟨g, o, e, Nat.lt_of_lt_of_le hg hB.size, fun i j hi hj => (hB.cell (p := ⟨g, _, none⟩) hg).trans (hc i j hi hj)⟩
theorem cellLt {W : World} {a : Addr} {v : Value} (h : W.cell? a = some v) : a.block < W.heap.size := by
  unfold World.cell? at h
  by_cases hb : a.block < W.heap.size
  · exact hb
  · have : W.heap[a.block]? = none := by simpa using hb
    rw [this] at h
    simp at h
theorem trodLt {H : Type} {enc : TypeId × Value → H} {W : World} {t : TypeId} {v : Value} {d : DataW H} {ps : List MemPlace} (h : DataW.Trod enc Tryz.prog W 0 (fun _ => true) true t v d ps) : ∀ x ∈ ps, x.block < W.heap.size := fun x hx => by
  obtain ⟨n, h⟩ := h
  exact DataW.trod_lt n _ _ _ h x hx
set_option maxRecDepth 100000 in
/-- An argument that is a slice of arrays of k integers. -/
theorem open_rowsK {H : Type} {enc : TypeId × Value → H} {W : World} {k : Nat} {t e : TypeId} (ht : Tryz.prog.underlying t = some (.slice e)) (he : Tryz.prog.underlying e = some (.array k 3)) (hc : Tryz.prog.cellsOf e = k) (hk : 0 < k)
    {v : Value} {d : DataW H} {ps : List MemPlace} {base : Nat} (hv : Value.okWide Tryz.prog W .any base t v) (h : DataW.Trod enc Tryz.prog W 0 (fun _ => true) true t v d ps) :
    ∃ p n c f, v = .slice p n c ∧ n ≤ 9223372036854775807 ∧ XK k W p n f ∧ ∀ i j, i < n → j < k → IsInt (f i j) := by
  obtain ⟨p, n, c, rfl⟩ := okWide_slice ht hv
  obtain ⟨fuel, hf⟩ := h
  have ci : Tryz.prog.cellsOf 3 = 1 := by kernel_rfl
  rcases Go.Deep.open_slice ht hf with ⟨h0, _⟩ | ⟨a, len, cap, m, nf, D, Pl, h0, hb, hl, hm, hmm, _, hx⟩
  · simp [Value.cells] at h0
    obtain ⟨rfl, rfl, rfl⟩ := h0
    exact ⟨none, 0, 0, fun _ _ => 0, rfl, by omega, .inl rfl, by omega⟩
  · simp [Value.cells] at h0
    obtain ⟨rfl, rfl, rfl⟩ := h0
    rw [hc] at hx
    have hmn : n ≤ m := by rw [hmm]; simpa using hl
    have key : ∀ i, i < n → ∃ g : Nat → Int, ∀ j, j < k → W.cell? ((a.add (i * k)).add j) = some (.int .i64 (g j)) ∧ IsInt (g j) := by
      intro i hi
      obtain ⟨cs', h1, h2⟩ := hx i (by omega)
      obtain ⟨_, hlen, hcell⟩ := World.cells?_some h1
      obtain ⟨ys, m', _, _, _, hy, hj⟩ := DataW.trod_array he h2
      obtain ⟨g, hg⟩ := Go.Deep.choose_lt (α := Int) (n := k) (p := fun j z => cs'[j]? = some (.int .i64 z) ∧ IsInt z) (fun j hjk => by
        have e1 := hj j hjk
        rw [ci, Nat.mul_one] at e1
        rw [List.getElem?_eq_getElem (show j < ys.length by omega)] at e1
        obtain ⟨z, ez, _, hz⟩ := DataW.trod_int Tryz.underlying3 e1
        refine ⟨z, ?_, isInt_wf hz⟩
        have e2 := congrArg (fun l => l[0]?) ez
        simpa using e2)
      exact ⟨g, fun j hjk => ⟨(hcell j hjk).trans (hg j hjk).1, (hg j hjk).2⟩⟩
    obtain ⟨F, hF⟩ := Go.Deep.choose_lt (α := Nat → Int) key
    refine ⟨some a, n, c, F, rfl, ?_, ?_, fun i j hi hj => (hF i hi j hj).2⟩
    · have : maxLen = 9223372036854775807 := by decide
      omega
    · by_cases hn : n = 0
      · exact .inl hn
      right
      obtain ⟨b, o, s⟩ := a
      have h00 := (hF 0 (by omega) 0 hk).1
      have hs : s = none := by simpa [Addr.add] using World.cell?_spot h00
      subst hs
      have ea : ∀ x : Nat, (⟨b, o, none⟩ : Addr).add x = ⟨b, o + x, none⟩ := fun x => by unfold Addr.add; split <;> simp_all
      have eb : ∀ y x : Nat, (⟨b, y, none⟩ : Addr).add x = ⟨b, y + x, none⟩ := fun y x => by unfold Addr.add; split <;> simp_all
      refine ⟨b, o, rfl, by have := cellLt h00; rwa [ea, eb] at this, fun i j hi hj => ?_⟩
      have := (hF i hi j hj).1
      rwa [ea, eb] at this
set_option maxRecDepth 100000 in
/-- An argument that is a slice of integers. -/
theorem open_intsL {H : Type} {enc : TypeId × Value → H} {W : World}
    {v : Value} {d : DataW H} {ps : List MemPlace} {base : Nat} (hv : Value.okWide Tryz.prog W .any base 58 v) (h : DataW.Trod enc Tryz.prog W 0 (fun _ => true) true 58 v d ps) :
    ∃ p n c f, v = .slice p n c ∧ n ≤ 9223372036854775807 ∧ XK 1 W p n f ∧ ∀ i j, i < n → j < 1 → IsInt (f i j) := by
  have ht : Tryz.prog.underlying 58 = some (.slice 3) := by kernel_rfl
  have hc : Tryz.prog.cellsOf 3 = 1 := by kernel_rfl
  obtain ⟨p, n, c, rfl⟩ := okWide_slice ht hv
  obtain ⟨fuel, hf⟩ := h
  rcases Go.Deep.open_slice1 ht hc hf with ⟨h0, _⟩ | ⟨a, len, cap, m, nf, V, D, Pl, h0, hb, hl, hm, hmm, _, hx⟩
  · simp [Value.cells] at h0
    obtain ⟨rfl, rfl, rfl⟩ := h0
    exact ⟨none, 0, 0, fun _ _ => 0, rfl, by omega, .inl rfl, by omega⟩
  · simp [Value.cells] at h0
    obtain ⟨rfl, rfl, rfl⟩ := h0
    have hmn : n ≤ m := by rw [hmm]; simpa using hl
    obtain ⟨F, hF⟩ := Go.Deep.choose_lt (α := Int) (n := n) (p := fun i z => W.cell? (a.add i) = some (.int .i64 z) ∧ IsInt z) (fun i hi => by
      obtain ⟨h1, h2⟩ := hx i (by omega)
      obtain ⟨z, ez, _, hz⟩ := DataW.trod_int Tryz.underlying3 h2
      refine ⟨z, ?_, isInt_wf hz⟩
      rw [h1]
      simpa using ez)
    refine ⟨some a, n, c, fun i _ => F i, rfl, ?_, ?_, fun i j hi hj => (hF i hi).2⟩
    · have : maxLen = 9223372036854775807 := by decide
      omega
    · by_cases hn : n = 0
      · exact .inl hn
      right
      obtain ⟨b, o, s⟩ := a
      have h00 := (hF 0 (by omega)).1
      have hs : s = none := by simpa [Addr.add] using World.cell?_spot h00
      subst hs
      have eb : ∀ y x : Nat, (⟨b, y, none⟩ : Addr).add x = ⟨b, y + x, none⟩ := fun y x => by unfold Addr.add; split <;> simp_all
      refine ⟨b, o, rfl, by have := cellLt h00; rwa [eb] at this, fun i j hi hj => ?_⟩
      have := (hF i hi).1
      rw [eb] at this
      rw [show o + i * 1 + j = o + i by omega]
      exact this
end Go.Proofs.YtngohpgkceedeaaGreatDoor
