/-
  What the rows' listed variables give, and a world that meets the list; arrays of integers as arguments. What the eight operations of the laws' calls hand back, as a relation; that results narrow with their operands, their digits, and the bounds that Rounds' differences need. Plain: no program in sight. Drift, plain: histories, what is known at a time, contradictions. No program in sight.
-/
import Derived.Carry
import Derived.Deep.DeepHandedRow
import Derived.Lay
import Derived.Lib.LaidTab
import Derived.Lib.LaidU8
import Derived.Lib.SmallJoins
import Derived.MakeChecks
import Derived.OpenShut
import Derived.ProofKit
import Derived.SevenTiedAt
import Derived.Stop.LaidErr
import Derived.Test.YtngohpgkceedeaaGreatDoorCards
import Derived.Test.YtngohpgkceedeaaGreatDoorTie
import Derived.WideKeyArr2
import Derived.Test.YtngohpgkceedeaaGreatDoorKECompute
import Derived.Test.YtngohpgkceedeaaGreatDoorKQPlain6
set_option linter.unusedSimpArgs false
set_option linter.unusedVariables false
namespace Go.Proofs.YtngohpgkceedeaaGreatDoor
open Go Go.ChangeShapes Go.WideShapes Go.ChangeAt Go.RowKit Go.Lib Go.WideMaps Go.Joins

theorem lawOwn : ownKnob Tryz.prog.godebug = none := by kernel_rfl
/-- The list, the same in each row of this seat. -/
abbrev lawLaid : List (String × DataW Unit) := Rows.enclosureRoundsRow.laid
theorem gPow : Tryz.prog.globalNamed "internal/strconv.uint64pow10" = some 4 := by kernel_rfl
theorem gPowType : (Tryz.prog.globals[4]?).map (·.type) = some 254 := by kernel_rfl
theorem cellsPow : Tryz.prog.cellsOf 254 = 20 := by kernel_rfl
theorem cellsU64 : Tryz.prog.cellsOf 217 = 1 := by kernel_rfl
theorem gRange : Tryz.prog.globalNamed "strconv.ErrRange" = some 3 := by kernel_rfl
theorem gRangeType : (Tryz.prog.globals[3]?).map (·.type) = some 147 := by kernel_rfl
theorem gSyntax : Tryz.prog.globalNamed "strconv.ErrSyntax" = some 2 := by kernel_rfl
theorem gSyntaxType : (Tryz.prog.globals[2]?).map (·.type) = some 147 := by kernel_rfl
theorem gFails : Tryz.prog.globalNamed "yardstick/enclosure.errFails" = some 0 := by kernel_rfl
theorem gFailsType : (Tryz.prog.globals[0]?).map (·.type) = some 147 := by kernel_rfl
theorem starError : "*" ++ "errors.errorString" = "*errors.errorString" := by decide
theorem rowError (u : TypeId) (h : Tryz.prog.typeName? 3 u = some "*errors.errorString") : u = 264 :=
  typeName_ptr_named (nm := "errors.errorString") (by rw [starError]; kernel_rfl) (by kernel_rfl) (by decide) u (by rw [starError]; exact h)
/-- A variable of an interface type that reads as an interface value holds one. -/
theorem iface_of_reads {P : Program} {W : World} {n nm : String} {d : DataW Unit} {g : Nat} {ti : TypeId} {ms : Array (String × TypeId)} (h : VarReads P W n (.iface nm d)) (hg : P.globalNamed n = some g) (ht : (P.globals[g]?).map (·.type) = some ti) (hi : P.underlying ti = some (.interface ms)) :
    ∃ te pe, W.cell? ⟨g, 0, none⟩ = some (.iface te pe) := by
  obtain ⟨g', t', cs, fuel, p, hg', ht', hvar, hd⟩ := h
  obtain rfl := Option.some.inj (hg.symm.trans hg')
  obtain rfl := Option.some.inj (ht.symm.trans ht')
  have hc := World.var?_cell hg hvar 0
  have hc' : W.cell? ⟨g, 0, none⟩ = cs.toList[0]? := by rw [hc]; simp
  generalize cs.toList = l at hd hc'
  cases fuel with
  | zero => simp [DataW.trod] at hd
  | succ k =>
    rcases l with _ | ⟨v, _ | ⟨v', l⟩⟩
    · simp [DataW.trod, hi] at hd
    · cases v with
      | iface te pe => exact ⟨te, pe, by simpa using hc'⟩
      | _ => simp [DataW.trod, hi] at hd
    · simp [DataW.trod, hi] at hd
theorem env_of_laid {W : World} (h : laidMetH Tryz.prog lawLaid W) : ∃ a, EnvE a W := by
  rw [MakeChecks.laidMetH_plain _ _ _ (by kernel_rfl)] at h
  obtain ⟨a, s, hv, _⟩ := laid_sentinel (r := lawLaid.drop 7) h.tail.tail.tail.tail.tail.tail gFails gFailsType Tryz.underlying147 rowError Tryz.underlying264 Tryz.underlying266 rfl rfl Tryz.underlying9 (by kernel_rfl) (by kernel_rfl)
  refine ⟨a, ⟨?_, iface_of_reads (Lib.laidMet.reads h (.tail _ (.tail _ (.tail _ (.tail _ (.tail _ (.head _))))))) gSyntax gSyntaxType Tryz.underlying147, iface_of_reads (Lib.laidMet.reads h (.tail _ (.tail _ (.tail _ (.tail _ (.head _)))))) gRange gRangeType Tryz.underlying147⟩, ?_⟩
  · exact Lib.tabIs_of_head (rest := lawLaid.drop 3) gPow gPowType Tryz.underlying254 Tryz.underlying217 cellsU64 cellsPow h.tail.tail
  · have := World.var?_cell gFails hv 0
    simpa using this
/-- A world that meets the list. -/
noncomputable def lawWorld (os : Os) : World := World.laidAll Tryz.prog os lawLaid
theorem laid_met (os : Os) (args : Array Value) : laidMetH Tryz.prog lawLaid ((lawWorld os).forCall (fun _ _ => 0) ⟨#[], args, []⟩).memory := by
  rw [MakeChecks.laidMetH_plain _ _ _ (by kernel_rfl)]
  exact laidMet_laidAll _ (by kernel_rfl) (by kernel_rfl)

theorem listN4 {α : Type} {l : List α} (h : l.length = 4) : ∃ a b c d, l = [a, b, c, d] := by
  obtain ⟨a, b, c, d, e⟩ := array4 (cs := l.toArray) (by simpa using h)
  exact ⟨a, b, c, d, by simpa using congrArg Array.toList e⟩
theorem listN2 {α : Type} {l : List α} (h : l.length = 2) : ∃ a b, l = [a, b] := by
  obtain ⟨a, b, e⟩ := array2 (cs := l.toArray) (by simpa using h)
  exact ⟨a, b, by simpa using congrArg Array.toList e⟩
theorem isInt_wf {a : Int} (h : (Lit.int .i64 a).wf = true) : IsInt a := by
  have h2 : -9223372036854775808 ≤ a ∧ a ≤ 9223372036854775807 := by simpa [Lit.wf, IntKind.min, IntKind.max, IntKind.signed, IntKind.bits] using h
  exact h2
theorem arrKey4 : ArrKey Tryz.prog 22 3 4 := ⟨Tryz.underlying22, by kernel_rfl, by kernel_rfl, by kernel_rfl⟩
set_option maxRecDepth 100000 in
/-- An argument that is an array of 4 integers. -/
theorem open_ints4 {H : Type} {enc : TypeId × Value → H} {W : World} {v : Value} {d : DataW H} {ps : List MemPlace} {base : Nat} (hv : Value.okWide Tryz.prog W .any base 22 v)
    (h : DataW.Trod enc Tryz.prog W 0 (fun _ => true) true 22 v d ps) : ∃ x0 x1 x2 x3 : Int, v = .agg #[.int .i64 x0, .int .i64 x1, .int .i64 x2, .int .i64 x3] ∧ ps = [] ∧ IsInt x0 ∧ IsInt x1 ∧ IsInt x2 ∧ IsInt x3 := by
  obtain ⟨cs, rfl, hsz⟩ : ∃ xs : Array Value, v = .agg xs ∧ xs.size = 4 := okWide_arr arrKey4 hv
  obtain ⟨c0, c1, c2, c3, rfl⟩ := array4 hsz
  obtain ⟨fuel, hf⟩ := h
  obtain ⟨ys, m, _, hx, _, hl, hi⟩ := DataW.trod_array Tryz.underlying22 hf
  have ce : Tryz.prog.cellsOf 3 = 1 := by kernel_rfl
  rw [ce] at hi

  obtain ⟨y0, y1, y2, y3, rfl⟩ : ∃ y0 y1 y2 y3, ys = [y0, y1, y2, y3] := listN4 hl
  have h0 : DataW.trod enc Tryz.prog W 0 (fun _ => true) true m 3 [c0] = some y0 := by simpa [Value.cells] using hi 0 (by omega)
  obtain ⟨x0, e0, f0, g0⟩ := DataW.trod_int Tryz.underlying3 h0
  have h1 : DataW.trod enc Tryz.prog W 0 (fun _ => true) true m 3 [c1] = some y1 := by simpa [Value.cells] using hi 1 (by omega)
  obtain ⟨x1, e1, f1, g1⟩ := DataW.trod_int Tryz.underlying3 h1
  have h2 : DataW.trod enc Tryz.prog W 0 (fun _ => true) true m 3 [c2] = some y2 := by simpa [Value.cells] using hi 2 (by omega)
  obtain ⟨x2, e2, f2, g2⟩ := DataW.trod_int Tryz.underlying3 h2
  have h3 : DataW.trod enc Tryz.prog W 0 (fun _ => true) true m 3 [c3] = some y3 := by simpa [Value.cells] using hi 3 (by omega)
  obtain ⟨x3, e3, f3, g3⟩ := DataW.trod_int Tryz.underlying3 h3
  simp only [List.cons.injEq, and_true] at e0 e1 e2 e3
  subst e0 e1 e2 e3
  refine ⟨x0, x1, x2, x3, rfl, ?_, isInt_wf g0, isInt_wf g1, isInt_wf g2, isInt_wf g3⟩
  · simp only [Prod.mk.injEq] at hx
    rw [hx.2]; simp [f0, f1, f2, f3]
theorem arrKey2 : ArrKey Tryz.prog 50 3 2 := ⟨Tryz.underlying50, by kernel_rfl, by kernel_rfl, by kernel_rfl⟩
set_option maxRecDepth 100000 in
/-- An argument that is an array of 2 integers. -/
theorem open_ints2 {H : Type} {enc : TypeId × Value → H} {W : World} {v : Value} {d : DataW H} {ps : List MemPlace} {base : Nat} (hv : Value.okWide Tryz.prog W .any base 50 v)
    (h : DataW.Trod enc Tryz.prog W 0 (fun _ => true) true 50 v d ps) : ∃ x0 x1 : Int, v = .agg #[.int .i64 x0, .int .i64 x1] ∧ ps = [] ∧ IsInt x0 ∧ IsInt x1 := by
  obtain ⟨cs, rfl, hsz⟩ : ∃ xs : Array Value, v = .agg xs ∧ xs.size = 2 := okWide_arr arrKey2 hv
  obtain ⟨c0, c1, rfl⟩ := array2 hsz
  obtain ⟨fuel, hf⟩ := h
  obtain ⟨ys, m, _, hx, _, hl, hi⟩ := DataW.trod_array Tryz.underlying50 hf
  have ce : Tryz.prog.cellsOf 3 = 1 := by kernel_rfl
  rw [ce] at hi

  obtain ⟨y0, y1, rfl⟩ : ∃ y0 y1, ys = [y0, y1] := listN2 hl
  have h0 : DataW.trod enc Tryz.prog W 0 (fun _ => true) true m 3 [c0] = some y0 := by simpa [Value.cells] using hi 0 (by omega)
  obtain ⟨x0, e0, f0, g0⟩ := DataW.trod_int Tryz.underlying3 h0
  have h1 : DataW.trod enc Tryz.prog W 0 (fun _ => true) true m 3 [c1] = some y1 := by simpa [Value.cells] using hi 1 (by omega)
  obtain ⟨x1, e1, f1, g1⟩ := DataW.trod_int Tryz.underlying3 h1
  simp only [List.cons.injEq, and_true] at e0 e1
  subst e0 e1
  refine ⟨x0, x1, rfl, ?_, isInt_wf g0, isInt_wf g1⟩
  · simp only [Prod.mk.injEq] at hx
    rw [hx.2]; simp [f0, f1]
end Go.Proofs.YtngohpgkceedeaaGreatDoor
namespace Go.Proofs.YtngohpgkceedeaaGreatDoor
open Go Go.Lib

/-- What the k-th operation hands back (T = 10^places): `none` is the error. -/
def OpRes (k : Nat) (a b : Iv) (T : Int) (o : Option Iv) : Prop :=
  match k with
  | 0 => o = some (addI a b)
  | 1 => o = some (subI a b)
  | 2 => o = some (mulI a b)
  | 3 => (b.Free ∧ o = some (divI a b)) ∨ (¬ b.Free ∧ o = none)
  | 4 => o = some (hullI a b)
  | 5 => ((meetI a b).Ok ∧ o = some (meetI a b)) ∨ (¬ (meetI a b).Ok ∧ o = none)
  | 6 => (0 ≤ a.lo ∧ ∃ s, SqrtI a T s ∧ o = some s) ∨ (a.lo < 0 ∧ o = none)
  | _ => o = some (roundI a T)

theorem OpRes.ok {k : Nat} {a b s : Iv} {T : Int} (hT : 0 < T) (ha : a.Ok) (hb : b.Ok) (h : OpRes k a b T (some s)) : s.Ok := by
  unfold OpRes at h
  split at h
  · cases h; exact addI_ok ha hb
  · cases h; exact subI_ok ha hb
  · cases h; exact mulI_ok ha hb
  · rcases h with ⟨h0, h⟩ | ⟨_, h⟩
    · cases h; exact divI_ok h0 ha hb
    · cases h
  · cases h; exact hullI_ok ha
  · rcases h with ⟨h0, h⟩ | ⟨_, h⟩
    · cases h; exact h0
    · cases h
  · rcases h with ⟨_, t, ht, h⟩ | ⟨_, h⟩
    · cases h; exact SqrtI.ok hT ha ht
    · cases h
  · cases h
    have h1 := sub_roundI (a := a) hT
    have h2 : a.lo ≤ a.hi := ha
    exact Rat.le_trans (Rat.le_trans h1.1 h2) h1.2

/-- Narrower operands: a narrower result; and where only the wider ones have one, it is the meet. -/
theorem OpRes.sub {k : Nat} {a b c d t : Iv} {T : Int} {o : Option Iv} (hT : 0 < T) (ha : a.Ok) (hb : b.Ok) (h1 : a.Sub c) (h2 : b.Sub d)
    (h : OpRes k a b T o) (h' : OpRes k c d T (some t)) : (∃ s, o = some s ∧ s.Sub t) ∨ (k = 5 ∧ o = none) := by
  unfold OpRes at h h'
  split at h <;> simp only at h'
  · cases h'; exact .inl ⟨_, h, addI_sub h1 h2⟩
  · cases h'; exact .inl ⟨_, h, subI_sub h1 h2⟩
  · cases h'; exact .inl ⟨_, h, mulI_sub ha hb h1 h2⟩
  · rcases h' with ⟨h0, h'⟩ | ⟨_, h'⟩
    · cases h'
      rcases h with ⟨_, h⟩ | ⟨hn, _⟩
      · exact .inl ⟨_, h, divI_sub h0 ha hb h1 h2⟩
      · exact absurd (h0.sub h2) hn
    · cases h'
  · cases h'; exact .inl ⟨_, h, hullI_sub ha hb h1 h2⟩
  · rcases h' with ⟨h0, h'⟩ | ⟨_, h'⟩
    · cases h'
      rcases h with ⟨hm, h⟩ | ⟨_, h⟩
      · exact .inl ⟨_, h, meetI_sub hm h1 h2⟩
      · exact .inr ⟨rfl, h⟩
    · cases h'
  · rcases h' with ⟨h0, u, hu, h'⟩ | ⟨_, h'⟩
    · cases h'
      rcases h with ⟨_, s, hs, h⟩ | ⟨hn, _⟩
      · exact .inl ⟨_, h, SqrtI.sub hT h1 hs hu⟩
      · exact absurd (Rat.le_trans h0 h1.1) (Rat.not_le.2 hn)
    · cases h'
  · cases h'; exact .inl ⟨_, h, roundI_sub hT h1⟩

/-- How long the results are. -/
theorem OpRes.dig {k j p : Nat} {a b s : Iv} (hj : 0 < j) (hb : b.Ok) (da : IDig j a) (db : IDig j b) (h : OpRes k a b (TT p) (some s)) : IDig (j + j + p + p + 1) s := by
  unfold OpRes at h
  split at h
  · cases h; exact (addI_dig da db).mono (by omega)
  · cases h; exact (subI_dig da db).mono (by omega)
  · cases h; exact (mulI_dig da db).mono (by omega)
  · rcases h with ⟨h0, h⟩ | ⟨_, h⟩
    · cases h; exact (divI_dig da db h0 hb).mono (by omega)
    · cases h
  · cases h; exact (hullI_dig da db).mono (by omega)
  · rcases h with ⟨h0, h⟩ | ⟨_, h⟩
    · cases h; exact (meetI_dig da db).mono (by omega)
    · cases h
  · rcases h with ⟨_, t, ht, h⟩ | ⟨_, h⟩
    · cases h; exact (SqrtI.dig da hj ht).mono (by omega)
    · cases h
  · cases h; exact (roundI_dig da).mono (by omega)

end Go.Proofs.YtngohpgkceedeaaGreatDoor
namespace Go.Proofs.YtngohpgkceedeaaGreatDoor
open Go Go.Lib

structure Pt where
  t : Nat
  iv : Iv
structure Hist where
  rate : Rat
  pts : List Pt

def dist (a b : Nat) : Nat := (a - b) + (b - a)
theorem dist_comm (a b : Nat) : dist a b = dist b a := by unfold dist; omega
theorem dist_self (a : Nat) : dist a a = 0 := by unfold dist; omega
theorem dist_tri (a b c : Nat) : dist a c ≤ dist a b + dist b c := by unfold dist; omega
theorem dist_le {a b : Nat} (h : a ≤ b) : dist a b = b - a := by unfold dist; omega
theorem dist_shift (a b k : Nat) : dist (a + k) (b + k) = dist a b := by unfold dist; omega
theorem dist_bound {a b n : Nat} (ha : a ≤ n) (hb : b ≤ n) : dist a b ≤ n := by unfold dist; omega

/-- How far a value gets. -/
def far (r : Rat) (d : Nat) : Rat := r * (d : Rat)
theorem far_zero (r : Rat) : far r 0 = 0 := by unfold far; grind
theorem far_nonneg {r : Rat} (h : 0 ≤ r) (d : Nat) : 0 ≤ far r d := Rat.mul_nonneg h (by exact_mod_cast Nat.zero_le d)
theorem far_add (r : Rat) (d e : Nat) : far r (d + e) = far r d + far r e := by unfold far; push_cast; grind
theorem far_mono {r : Rat} (h : 0 ≤ r) {d e : Nat} (hd : d ≤ e) : far r d ≤ far r e := by
  obtain ⟨k, rfl⟩ : ∃ k, e = d + k := ⟨e - d, by omega⟩
  rw [far_add]
  have := far_nonneg h k
  grind
theorem far_rate {r s : Rat} (h : r ≤ s) (d : Nat) : far r d ≤ far s d := by
  unfold far
  have h1 : 0 ≤ s - r := by grind
  have h2 : 0 ≤ (s - r) * (d : Rat) := Rat.mul_nonneg h1 (by exact_mod_cast Nat.zero_le d)
  grind
theorem far_tri {r : Rat} (h : 0 ≤ r) (a b c : Nat) : far r (dist a c) ≤ far r (dist a b) + far r (dist b c) := by
  rw [← far_add]; exact far_mono h (dist_tri a b c)
theorem far_divInt (r : Rat) (d : Nat) : r * Rat.divInt (d : Int) 1 = far r d := by
  unfold far
  rw [show Rat.divInt (d : Int) 1 = (d : Rat) from by have := divInt_mul (n := (d : Int)) (T := 1) (by decide); simp at this; exact this.trans (by push_cast; rfl)]

def lowAt (r : Rat) (t : Nat) (p : Pt) : Rat := p.iv.lo - far r (dist t p.t)
def highAt (r : Rat) (t : Nat) (p : Pt) : Rat := p.iv.hi + far r (dist t p.t)
/-- The greatest lower end, the least upper end. -/
def IsLo (r : Rat) (t : Nat) (l : List Pt) (x : Rat) : Prop := (∃ p, p ∈ l ∧ x = lowAt r t p) ∧ ∀ p, p ∈ l → lowAt r t p ≤ x
def IsHi (r : Rat) (t : Nat) (l : List Pt) (x : Rat) : Prop := (∃ p, p ∈ l ∧ x = highAt r t p) ∧ ∀ p, p ∈ l → x ≤ highAt r t p
theorem IsLo.one (r : Rat) (t : Nat) (p : Pt) : IsLo r t [p] (lowAt r t p) := ⟨⟨p, by simp, rfl⟩, fun q hq => by simp at hq; subst hq; exact Rat.le_refl⟩
theorem IsHi.one (r : Rat) (t : Nat) (p : Pt) : IsHi r t [p] (highAt r t p) := ⟨⟨p, by simp, rfl⟩, fun q hq => by simp at hq; subst hq; exact Rat.le_refl⟩
theorem IsLo.snoc_gt {r : Rat} {t : Nat} {l : List Pt} {x : Rat} {p : Pt} (h : IsLo r t l x) (hp : x < lowAt r t p) : IsLo r t (l ++ [p]) (lowAt r t p) :=
  ⟨⟨p, by simp, rfl⟩, fun q hq => by
    rcases List.mem_append.1 hq with hq | hq
    · exact Rat.le_trans (h.2 q hq) (Rat.le_of_lt hp)
    · simp at hq; subst hq; exact Rat.le_refl⟩
theorem IsLo.snoc_le {r : Rat} {t : Nat} {l : List Pt} {x : Rat} {p : Pt} (h : IsLo r t l x) (hp : lowAt r t p ≤ x) : IsLo r t (l ++ [p]) x :=
  ⟨h.1.elim fun q hq => ⟨q, List.mem_append_left _ hq.1, hq.2⟩, fun q hq => by
    rcases List.mem_append.1 hq with hq | hq
    · exact h.2 q hq
    · simp at hq; subst hq; exact hp⟩
theorem IsHi.snoc_lt {r : Rat} {t : Nat} {l : List Pt} {x : Rat} {p : Pt} (h : IsHi r t l x) (hp : highAt r t p < x) : IsHi r t (l ++ [p]) (highAt r t p) :=
  ⟨⟨p, by simp, rfl⟩, fun q hq => by
    rcases List.mem_append.1 hq with hq | hq
    · exact Rat.le_trans (Rat.le_of_lt hp) (h.2 q hq)
    · simp at hq; subst hq; exact Rat.le_refl⟩
theorem IsHi.snoc_ge {r : Rat} {t : Nat} {l : List Pt} {x : Rat} {p : Pt} (h : IsHi r t l x) (hp : x ≤ highAt r t p) : IsHi r t (l ++ [p]) x :=
  ⟨h.1.elim fun q hq => ⟨q, List.mem_append_left _ hq.1, hq.2⟩, fun q hq => by
    rcases List.mem_append.1 hq with hq | hq
    · exact h.2 q hq
    · simp at hq; subst hq; exact hp⟩
theorem IsLo.unique {r : Rat} {t : Nat} {l : List Pt} {x y : Rat} (h : IsLo r t l x) (k : IsLo r t l y) : x = y := by
  obtain ⟨⟨p, hp, e⟩, h2⟩ := h
  obtain ⟨⟨q, hq, e'⟩, k2⟩ := k
  have := h2 q hq
  have := k2 p hp
  grind
theorem IsHi.unique {r : Rat} {t : Nat} {l : List Pt} {x y : Rat} (h : IsHi r t l x) (k : IsHi r t l y) : x = y := by
  obtain ⟨⟨p, hp, e⟩, h2⟩ := h
  obtain ⟨⟨q, hq, e'⟩, k2⟩ := k
  have := h2 q hq
  have := k2 p hp
  grind

/-- Two points contradict each other. -/
def contra (r : Rat) (a b : Pt) : Prop := far r (dist b.t a.t) < b.iv.lo - a.iv.hi ∨ far r (dist b.t a.t) < a.iv.lo - b.iv.hi
theorem contra_comm {r : Rat} {a b : Pt} : contra r a b ↔ contra r b a := by unfold contra; rw [dist_comm b.t a.t]; exact Or.comm
theorem contra_self {r : Rat} (h : 0 ≤ r) {a : Pt} (ha : a.iv.Ok) : ¬ contra r a a := by
  have h1 := far_nonneg h (dist a.t a.t)
  have h2 : a.iv.lo ≤ a.iv.hi := ha
  unfold contra; grind
theorem not_contra {r : Rat} {a b : Pt} : ¬ contra r a b ↔ b.iv.lo - a.iv.hi ≤ far r (dist b.t a.t) ∧ a.iv.lo - b.iv.hi ≤ far r (dist b.t a.t) := by
  unfold contra
  rw [not_or, Rat.not_lt, Rat.not_lt]
theorem contra_rate {r s : Rat} (h : r ≤ s) {a b : Pt} (hc : contra s a b) : contra r a b := by
  have := far_rate h (dist b.t a.t)
  rcases hc with hc | hc
  · exact .inl (by grind)
  · exact .inr (by grind)

/-- No two points contradict each other. -/
def Free (h : Hist) : Prop := ∀ p, p ∈ h.pts → ∀ q, q ∈ h.pts → ¬ contra h.rate p q
/-- What is known at a time. -/
def Knows (h : Hist) (t : Nat) (o : Iv) : Prop := IsLo h.rate t h.pts o.lo ∧ IsHi h.rate t h.pts o.hi
theorem Knows.unique {h : Hist} {t : Nat} {o o' : Iv} (k : Knows h t o) (k' : Knows h t o') : o = o' := by
  have h1 := k.1.unique k'.1
  have h2 := k.2.unique k'.2
  cases o; cases o'; simp only at h1 h2; subst h1 h2; rfl
/-- Points that agree reach each other. -/
theorem agree {r : Rat} (hr : 0 ≤ r) {t : Nat} {a b : Pt} (h : ¬ contra r a b) : lowAt r t b ≤ highAt r t a := by
  have h1 := (not_contra.1 h).1
  have h2 := far_tri hr b.t t a.t
  rw [dist_comm b.t t] at h2
  unfold lowAt highAt
  grind
theorem Knows.ok {h : Hist} {t : Nat} {o : Iv} (hr : 0 ≤ h.rate) (hf : Free h) (k : Knows h t o) : o.Ok := by
  obtain ⟨⟨⟨p, hp, e⟩, _⟩, ⟨⟨q, hq, e'⟩, _⟩⟩ := k
  show o.lo ≤ o.hi
  rw [e, e']
  exact agree hr (hf q hq p hp)

/-- Valid histories. -/
structure Hist.Ok (h : Hist) : Prop where
  rate : 0 ≤ h.rate
  rdig : QDig 40 h.rate
  few : h.pts.length ≤ 64
  times : ∀ p, p ∈ h.pts → p.t ≤ 1000000
  ivs : ∀ p, p ∈ h.pts → p.iv.Ok ∧ IDig 40 p.iv
  sorted : h.pts.Pairwise fun a b => a.t ≤ b.t

theorem dec_nat_dig {n k : Nat} (h : n < 10 ^ k) : Dig k (n : Int) := by unfold Dig; rw [Int.natAbs_natCast]; exact h
theorem far_dig {k : Nat} {r : Rat} (h : QDig k r) {d : Nat} (hd : d ≤ 1000000) : QDig (k + 7) (far r d) := by
  rw [← far_divInt]
  exact h.mul (QDig.ofInt (by decide) ((show d < 10 ^ 7 by omega) |> dec_nat_dig) ((show Dig 1 1 by unfold Dig; decide).mono (by omega)))
theorem lowAt_dig {j k : Nat} {r : Rat} {p : Pt} {t : Nat} (hr : QDig k r) (hp : IDig j p.iv) (ht : t ≤ 1000000) (hpt : p.t ≤ 1000000) : QDig (j + k + 8) (lowAt r t p) :=
  (hp.1.sub (far_dig hr (dist_bound ht hpt))).mono (by omega)
theorem highAt_dig {j k : Nat} {r : Rat} {p : Pt} {t : Nat} (hr : QDig k r) (hp : IDig j p.iv) (ht : t ≤ 1000000) (hpt : p.t ≤ 1000000) : QDig (j + k + 8) (highAt r t p) :=
  (hp.2.add (far_dig hr (dist_bound ht hpt))).mono (by omega)
theorem Knows.dig {j k : Nat} {h : Hist} {t : Nat} {o : Iv} (hk : Knows h t o) (hr : QDig k h.rate) (hj : ∀ p, p ∈ h.pts → IDig j p.iv) (ht : t ≤ 1000000) (htimes : ∀ p, p ∈ h.pts → p.t ≤ 1000000) : IDig (j + k + 8) o := by
  obtain ⟨⟨⟨p, hp, e⟩, _⟩, ⟨⟨q, hq, e'⟩, _⟩⟩ := hk
  constructor
  · rw [e]; exact lowAt_dig hr (hj p hp) ht (htimes p hp)
  · rw [e']; exact highAt_dig hr (hj q hq) ht (htimes q hq)

/-- How many points there are up to a time. -/
def upTo (l : List Pt) (t : Int) : Nat := l.countP fun p => decide ((p.t : Int) ≤ t)
theorem upTo_le (l : List Pt) (t : Int) : upTo l t ≤ l.length := List.countP_le_length
theorem upTo_spec (t : Int) : ∀ l : List Pt, (l.Pairwise fun a b => a.t ≤ b.t) → (∀ p, p ∈ l.take (upTo l t) → (p.t : Int) ≤ t) ∧ ∀ p, p ∈ l.drop (upTo l t) → t < (p.t : Int)
  | [], _ => by simp
  | p :: l, hs => by
    obtain ⟨h1, h2⟩ := List.pairwise_cons.1 hs
    have ih := upTo_spec t l h2
    by_cases hp : (p.t : Int) ≤ t
    · have e : upTo (p :: l) t = upTo l t + 1 := by unfold upTo; rw [List.countP_cons_of_pos (by simpa using hp)]
      rw [e, List.take_succ_cons, List.drop_succ_cons]
      refine ⟨fun q hq => ?_, ih.2⟩
      rcases List.mem_cons.1 hq with rfl | hq
      · exact hp
      · exact ih.1 q hq
    · have e : upTo (p :: l) t = 0 := by
        unfold upTo
        rw [List.countP_eq_zero]
        intro q hq
        have : p.t ≤ q.t := by
          rcases List.mem_cons.1 hq with rfl | hq
          · exact Nat.le_refl _
          · exact h1 q hq
        simp only [decide_eq_true_eq]
        omega
      rw [e]
      refine ⟨by simp, fun q hq => ?_⟩
      rw [List.drop_zero] at hq
      rcases List.mem_cons.1 hq with rfl | hq
      · omega
      · have := h1 q hq; omega
/-- The points, with a further one behind those of its time. -/
def ins (l : List Pt) (p : Pt) : List Pt := l.take (upTo l p.t) ++ p :: l.drop (upTo l p.t)
theorem mem_ins {l : List Pt} {p q : Pt} : q ∈ ins l p ↔ q = p ∨ q ∈ l := by
  unfold ins
  rw [List.mem_append, List.mem_cons]
  have h : q ∈ l ↔ q ∈ l.take (upTo l p.t) ∨ q ∈ l.drop (upTo l p.t) := by rw [← List.mem_append, List.take_append_drop]
  rw [h]
  constructor
  · rintro (h | h | h)
    · exact .inr (.inl h)
    · exact .inl h
    · exact .inr (.inr h)
  · rintro (h | h | h)
    · exact .inr (.inl h)
    · exact .inl h
    · exact .inr (.inr h)
theorem ins_length (l : List Pt) (p : Pt) : (ins l p).length = l.length + 1 := by
  unfold ins
  have := upTo_le l p.t
  simp; omega
theorem ins_sorted {l : List Pt} (hs : l.Pairwise fun a b => a.t ≤ b.t) (p : Pt) : (ins l p).Pairwise fun a b => a.t ≤ b.t := by
  obtain ⟨h1, h2⟩ := upTo_spec p.t l hs
  unfold ins
  rw [List.pairwise_append, List.pairwise_cons]
  refine ⟨hs.sublist (List.take_sublist _ _), ⟨fun q hq => by have := h2 q hq; omega, hs.sublist (List.drop_sublist _ _)⟩, fun a ha b hb => ?_⟩
  have := h1 a ha
  rcases List.mem_cons.1 hb with rfl | hb
  · omega
  · have := h2 b hb; omega
theorem ins_ok {h : Hist} {p : Pt} (ho : h.Ok) (hn : h.pts.length ≤ 63) (ht : p.t ≤ 1000000) (hi : p.iv.Ok ∧ IDig 40 p.iv) : Hist.Ok ⟨h.rate, ins h.pts p⟩ where
  rate := ho.rate
  rdig := ho.rdig
  few := by show (ins h.pts p).length ≤ 64; rw [ins_length]; omega
  times := fun q hq => by
    rcases mem_ins.1 hq with rfl | hq
    · exact ht
    · exact ho.times q hq
  ivs := fun q hq => by
    rcases mem_ins.1 hq with rfl | hq
    · exact hi
    · exact ho.ivs q hq
  sorted := ins_sorted ho.sorted p
/-- The points up to a time, as a history. -/
def known (h : Hist) (t : Int) : Hist := ⟨h.rate, h.pts.take (upTo h.pts t)⟩
theorem known_ok {h : Hist} (ho : h.Ok) (t : Int) : (known h t).Ok where
  rate := ho.rate
  rdig := ho.rdig
  few := Nat.le_trans (List.length_take_le' _ _) ho.few
  times := fun q hq => ho.times q (List.mem_of_mem_take hq)
  ivs := fun q hq => ho.ivs q (List.mem_of_mem_take hq)
  sorted := ho.sorted.sublist (List.take_sublist _ _)

/-- The pairs (i, k), i below k, at which a test holds, in their order: those that have come when a row is over up to k; when i rows are over. -/
def rowUp (c : Nat → Nat → Bool) (i k : Nat) : List (Nat × Nat) := ((List.range k).filter fun j => decide (i < j) && c i j).map fun j => (i, j)
def conUp (c : Nat → Nat → Bool) (n i : Nat) : List (Nat × Nat) := (List.range i).flatMap fun a => rowUp c a n
theorem rowUp_start (c : Nat → Nat → Bool) (i : Nat) : rowUp c i (i + 1) = [] := by
  unfold rowUp
  rw [List.map_eq_nil_iff, List.filter_eq_nil_iff]
  intro j hj
  have : j < i + 1 := List.mem_range.1 hj
  simp; omega
theorem rowUp_yes {c : Nat → Nat → Bool} {i k : Nat} (h : i < k) (hc : c i k = true) : rowUp c i (k + 1) = rowUp c i k ++ [(i, k)] := by
  unfold rowUp
  rw [List.range_succ, List.filter_append, List.map_append]
  simp [h, hc]
theorem rowUp_no {c : Nat → Nat → Bool} {i k : Nat} (hc : c i k = false) : rowUp c i (k + 1) = rowUp c i k := by
  unfold rowUp
  rw [List.range_succ, List.filter_append, List.map_append]
  simp [hc]
theorem conUp_succ (c : Nat → Nat → Bool) (n i : Nat) : conUp c n (i + 1) = conUp c n i ++ rowUp c i n := by
  unfold conUp
  rw [List.range_succ, List.flatMap_append]
  simp
theorem conUp_nil {c : Nat → Nat → Bool} {n : Nat} : conUp c n n = [] ↔ ∀ i k, i < k → k < n → c i k = false := by
  unfold conUp rowUp
  rw [List.flatMap_eq_nil_iff]
  constructor
  · intro h i k hik hk
    have h1 := h i (List.mem_range.2 (by omega))
    rw [List.map_eq_nil_iff, List.filter_eq_nil_iff] at h1
    have := h1 k (List.mem_range.2 hk)
    simpa [hik] using this
  · intro h i hi
    rw [List.map_eq_nil_iff, List.filter_eq_nil_iff]
    intro k hk
    have hk' := List.mem_range.1 hk
    by_cases hik : i < k
    · simp [h i k hik hk']
    · simp [hik]
instance (r : Rat) (a b : Pt) : Decidable (contra r a b) := inferInstanceAs (Decidable (_ ∨ _))
def ptD (l : List Pt) (i : Nat) : Pt := l.getD i ⟨0, ⟨0, 0⟩⟩
def cAt (h : Hist) (i k : Nat) : Bool := decide (contra h.rate (ptD h.pts i) (ptD h.pts k))
/-- The pairs of points that contradict each other. -/
def cons (h : Hist) : List (Nat × Nat) := conUp (cAt h) h.pts.length h.pts.length
theorem ptD_mem {l : List Pt} {i : Nat} (h : i < l.length) : ptD l i ∈ l := by
  unfold ptD
  rw [List.getD_eq_getElem?_getD, List.getElem?_eq_getElem h]
  exact List.getElem_mem h
theorem mem_ptD {l : List Pt} {p : Pt} (h : p ∈ l) : ∃ i, i < l.length ∧ ptD l i = p := by
  obtain ⟨i, hi, e⟩ := List.getElem_of_mem h
  exact ⟨i, hi, by unfold ptD; rw [List.getD_eq_getElem?_getD, List.getElem?_eq_getElem hi]; exact e⟩
theorem cons_nil {h : Hist} (ho : h.Ok) : cons h = [] ↔ Free h := by
  unfold cons
  rw [conUp_nil]
  constructor
  · intro hc p hp q hq
    obtain ⟨i, hi, rfl⟩ := mem_ptD hp
    obtain ⟨k, hk, rfl⟩ := mem_ptD hq
    rcases Nat.lt_trichotomy i k with hik | rfl | hik
    · exact of_decide_eq_false (hc i k hik hk)
    · exact contra_self ho.rate (ho.ivs _ (ptD_mem hi)).1
    · exact fun h => of_decide_eq_false (hc k i hik hi) (contra_comm.1 h)
  · intro hf i k hik hk
    exact decide_eq_false (hf _ (ptD_mem (by omega)) _ (ptD_mem hk))
end Go.Proofs.YtngohpgkceedeaaGreatDoor
