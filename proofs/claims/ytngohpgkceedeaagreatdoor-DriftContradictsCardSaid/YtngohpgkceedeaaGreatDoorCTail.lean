/-
  Regions that draw their order and end in stores: what each operation hands back is known, or is said of; the obligations, one an operation.
-/
import Derived.Test.YtngohpgkceedeaaGreatDoorCFromInt
set_option linter.unusedSimpArgs false
set_option linter.unusedVariables false
namespace Go.Proofs.YtngohpgkceedeaaGreatDoor
open Go Go.RowKit Go.Lib Go.Shelf

inductive QItem where
  | val (v : Value)
  | say (S : QSay)
def QItem.sp : QItem → QSay
  | .val v => fun u _ => u = v
  | .say S => S
def itemSp (l : List QItem) (i : Nat) : QSay := match l[i]? with | some q => q.sp | none => fun _ _ => True
def qMono (S : QSay) : Prop := ∀ v W W', S v W → Below W.heap.size W W' → S v W'
def itemsMono : List QItem → Prop
  | [] => True
  | .val _ :: l => itemsMono l
  | .say S :: l => qMono S ∧ itemsMono l
theorem itemsMono.get : ∀ {l : List QItem}, itemsMono l → ∀ i v W W', itemSp l i v W → Below W.heap.size W W' → itemSp l i v W'
  | [], _, i, v, W, W', h, _ => by simp [itemSp]
  | .val u :: l, hm, 0, v, W, W', h, _ => h
  | .say S :: l, hm, 0, v, W, W', h, hB => hm.1 v W W' h hB
  | .val u :: l, hm, i + 1, v, W, W', h, hB => itemsMono.get (l := l) hm i v W W' h hB
  | .say S :: l, hm, i + 1, v, W, W', h, hB => itemsMono.get (l := l) hm.2 i v W W' h hB
def itemOb (P : Program) (ops : Array Oper) (fl : List Oper) (items : List QItem) (tmps : Array Value) (w : World) (o : Oper) (q : QItem) : Prop :=
  ∀ (ρ : Operand → Value) (W : World), Below w.heap.size w W → (∀ v, ρ (.const v) = v) → (∀ g, ρ (.global g) = .pointer (some ⟨g, 0, none⟩)) → (∀ f, ρ (.func f) = .func (.func f) #[] #[]) →
    (∀ t, foreign fl t = true → ρ (.tmp t) = tmps.getD t undef) → depsSay ops (itemSp items) ρ W o.after.toList →
    if Region.wanted o (yieldedBy ops ρ) then quietly P q.sp W ((execOp ρ o).run P W) else q.sp undef W
def allItems (P : Program) (ops : Array Oper) (fl : List Oper) (items : List QItem) (tmps : Array Value) (w : World) : List Oper → List QItem → Prop
  | o :: l, q :: qs => itemOb P ops fl items tmps w o q ∧ allItems P ops fl items tmps w l qs
  | [], _ => True
  | _ :: _, [] => False
theorem allItems.cons {P : Program} {ops : Array Oper} {fl : List Oper} {items : List QItem} {tmps : Array Value} {w : World} {o : Oper} {l : List Oper} {q : QItem} {qs : List QItem} (h : itemOb P ops fl items tmps w o q) (h' : allItems P ops fl items tmps w l qs) : allItems P ops fl items tmps w (o :: l) (q :: qs) := ⟨h, h'⟩
theorem allItems.quiet {P : Program} {ops : Array Oper} {fl : List Oper} {items : List QItem} {tmps : Array Value} {w : World} : ∀ (l : List Oper) (qs : List QItem) (k : Nat), allItems P ops fl items tmps w l qs → (∀ i, qs[i]? = items[k + i]?) → allQuiet P ops fl (itemSp items) tmps w k l
  | [], _, _, _, _ => trivial
  | o :: l, [], _, h, _ => h.elim
  | o :: l, q :: qs, k, h, hq => by
    have e : itemSp items k = q.sp := by
      have := hq 0
      rw [Nat.add_zero] at this
      unfold itemSp; rw [← this]; rfl
    refine ⟨?_, allItems.quiet l qs (k + 1) h.2 (fun i => by have := hq (i + 1); simpa [Nat.add_assoc, Nat.add_comm 1 i] using this)⟩
    intro ρ W h1 h2 h3 h4 h5 h6
    rw [e]
    exact h.1 ρ W h1 h2 h3 h4 h5 h6
def setItems (W : World) (K : Array Value → Prop) : List Oper → List QItem → Array Value → Prop
  | o :: l, .val v :: qs, T => setItems W K l qs (match o.dst with | some d => T.setIfInBounds d v | none => T)
  | o :: l, .say S :: qs, T => match o.dst with | some d => ∀ v, S v W → setItems W K l qs (T.setIfInBounds d v) | none => setItems W K l qs T
  | _, _, T => K T
theorem setItems_done {items : List QItem} {K : Array Value → World → Prop} {W : World} : ∀ (l : List Oper) (qs : List QItem) (k : Nat) (T : Array Value), l.length = qs.length → (∀ i, qs[i]? = items[k + i]?) → setItems W (fun T => K T W) l qs T → quietDone (itemSp items) K W k l T
  | [], [], _, _, _, _, h => h
  | [], _ :: _, _, _, hl, _, _ => by simp at hl
  | _ :: _, [], _, _, hl, _, _ => by simp at hl
  | o :: l, q :: qs, k, T, hl, hq, h => by
    have e : itemSp items k = q.sp := by
      have := hq 0
      rw [Nat.add_zero] at this
      unfold itemSp; rw [← this]; rfl
    have ih : ∀ T, setItems W (fun T => K T W) l qs T → quietDone (itemSp items) K W (k + 1) l T := fun T h => setItems_done l qs (k + 1) T (by simpa using hl) (fun i => by have := hq (i + 1); simpa [Nat.add_assoc, Nat.add_comm 1 i] using this) h
    unfold quietDone
    rw [e]
    cases q with
    | val v =>
      cases hd : o.dst with
      | none => simp only [setItems, hd] at h; exact ih T h
      | some t => simp only [setItems, hd] at h; intro u hu; have hu : u = v := hu; subst hu; exact ih _ h
    | say S =>
      cases hd : o.dst with
      | none => simp only [setItems, hd] at h; exact ih T h
      | some t => simp only [setItems, hd] at h; intro u hu; exact ih _ (h u hu)
/-- **A region that draws its order; its first n operations are said of by items; the others wait, each, for all ahead of them.** -/
theorem wp_region_items {P : Program} {ops : Array Oper} {Q : Exit → Act → World → Prop} {id : Nat} {tmps : Array Value} {ds : List Deferred} {w : World} (n : Nat) (items : List QItem) (hm : P.follows .mixedOrders = true)
    (htail : (tailFit ops n && quietFit ops tmps.size && decide (n ≤ ops.size) && decide ((ops.toList.take n).length = items.length)) = true) (hmono : itemsMono items) (hall : allItems P ops (ops.toList.take n) items tmps w (ops.toList.take n) items)
    (hdone : ∀ W, Below w.heap.size w W → setItems W (fun T => wpList P ops Q (ops.toList.drop n) ⟨T, ds⟩ W) (ops.toList.take n) items tmps) : (Code.region id ops true).wp P Q ⟨tmps, ds⟩ w := by
  simp only [Bool.and_eq_true, decide_eq_true_eq] at htail
  exact wp_region_tail n (itemSp items) hm hmono.get htail.1.2 htail.1.1.1 htail.1.1.2 (allItems.quiet _ _ 0 hall (fun i => by simp)) fun W hW => setItems_done _ _ 0 _ htail.2 (fun i => by simp) (hdone W hW)
/-- A new block. -/
def fresh (n : Nat) (o : Obj) : QSay := fun v W => ∃ b, v = .pointer (some ⟨b, 0, none⟩) ∧ n ≤ b ∧ Row W b o
theorem fresh_mono (n : Nat) (o : Obj) : qMono (fresh n o) := fun v W W' ⟨b, e, hb, hr⟩ hB => ⟨b, e, hb, Row.below hr hB⟩
theorem fresh_new {w X : World} (h : Below w.heap.size w X) (o : Obj) : fresh w.heap.size o (.pointer (some ⟨X.heap.size, 0, none⟩)) (X.alloc o) ∧ Below X.heap.size X (X.alloc o) := ⟨⟨X.heap.size, rfl, h.size, row_new _ _⟩, (Below.refl _ _).alloc (Nat.le_refl _) _⟩
/-- An operation that reads no memory. -/
theorem qi0 {p : Prop} (h : p := by intro ρ X qX qc qg qf qt qd; simp [depsSay, itemSp, QItem.sp, Region.binds] at qd; simp [Region.wanted, yieldedBy, quietly, QItem.sp, execOp, go_sem, foreign, qc, qd, qt, Below.refl]) : p := h
/-- The same, with a fact. -/
theorem qif {p q : Prop} (y : q) (h : q → p := by intro y ρ X qX qc qg qf qt qd; simp [depsSay, itemSp, QItem.sp, Region.binds] at qd; simp [Region.wanted, yieldedBy, quietly, QItem.sp, execOp, go_sem, foreign, qc, qd, qt, Below.refl, y]) : p := h y
/-- A load: what the block's cells hold. -/
theorem qi1 {p : Prop} {q : World → Prop} {w : World} (y : ∀ X, Below w.heap.size w X → q X)
    (h : (∀ X, Below w.heap.size w X → q X) → p := by intro y ρ X qX qc qg qf qt qd; simp [depsSay, itemSp, QItem.sp, Region.binds] at qd; have y' := y X qX; clear y; simp [Region.wanted, yieldedBy, quietly, QItem.sp, execOp, go_sem, foreign, qc, qd, qt, Below.refl, y']) : p := h y
/-- A call. -/
theorem qi2 {p : Prop} {P : Program} {F : FuncId} {args : Array Value} {R : World → Ending → World → Prop} {w : World} (y : ∀ X, Below w.heap.size w X → Calls P F args X (R X))
    (h : (∀ X, Below w.heap.size w X → Calls P F args X (R X)) → p := by intro y ρ X qX qc qg qf qt qd; simp [depsSay, itemSp, QItem.sp, Region.binds] at qd; simp [Region.wanted, yieldedBy, quietly, QItem.sp, execOp, go_sem, foreign, qc, qd, qt, qf]; refine ⟨Below.refl _ _, (y X qX).mono ?_⟩; rintro e Y ⟨rfl, h1⟩; exact ⟨_, rfl, rfl, h1⟩) : p := h y
/-- A call whose result is said of. -/
theorem qi3 {p : Prop} {P : Program} {F : FuncId} {args : Array Value} {R : World → Ending → World → Prop} {w : World} (y : ∀ X, Below w.heap.size w X → Calls P F args X (R X))
    (h : (∀ X, Below w.heap.size w X → Calls P F args X (R X)) → p := by intro y ρ X qX qc qg qf qt qd; simp [depsSay, itemSp, QItem.sp, Region.binds] at qd; simp [Region.wanted, yieldedBy, quietly, QItem.sp, execOp, go_sem, foreign, qc, qd, qt, qf]; refine ⟨Below.refl _ _, (y X qX).mono ?_⟩; rintro e Y ⟨v, rfl, hs, h1⟩; exact ⟨_, rfl, hs, h1⟩) : p := h y
/-- A store of what the cells hold already. -/
theorem qvst {p : Prop} {w : World} {b : Nat} {v0 v1 : Value} {t : TypeId} (y : ∀ X, Below w.heap.size w X → Row X b (.cells #[v0, v1] t))
    (h : (∀ X, Below w.heap.size w X → Row X b (.cells #[v0, v1] t)) → p := by intro y ρ X qX qc qg qf qt qd; simp [depsAre, Region.binds] at qd; obtain ⟨_, y1, y2, y3, y4⟩ := Row.cells2 (y X qX); obtain ⟨y5, y6⟩ := setCell_same2 (y X qX); clear y; simp [Region.wanted, yieldedBy, quietly, execOp, go_sem, foreign, qc, qd, qt, Below.refl, y1, y2, y3, y4, y5, y6]) : p := h y
/-- A new block's place. -/
theorem qia {p : Prop} (h : p := by intro ρ X qX qc qg qf qt qd; simp [Region.wanted, yieldedBy, quietly, QItem.sp, execOp, go_sem, foreign]; exact fresh_new qX _) : p := h
end Go.Proofs.YtngohpgkceedeaaGreatDoor
