/-
 What the cells of a block of few cells hold: all at once. Regions that draw their order and end in stores: what each operation hands back is known, or is said of; the obligations, one an operation. The small functions of drift: fractions of two machine integers, short fractions, how far a value gets, gaps. Package enclosure: Valid, Contains, Within; that all intervals of a slice are valid.
-/
import Derived.Test.YtnokpldomlmamaaGreatDoorKARow
import Derived.Test.YtnokpldomlmamaaGreatDoorKECompute
import Derived.Test.YtnokpldomlmamaaGreatDoorKQCmp
set_option linter.unusedVariables false
set_option linter.unusedSimpArgs false
set_option maxRecDepth 100000
set_option maxHeartbeats 16000000
namespace Go.Proofs.YtnokpldomlmamaaGreatDoor
open Go Go.RowKit Go.Lib Go.Shelf
theorem RF1 {X:World} {b:Nat} {u0:Value} {T:TypeId} (h:Row X b (.cells #[u0] T)):b<X.heap.size∧X.cell? ⟨b,0,none⟩=some u0:=⟨h.1,Row.cell_at h 0 rfl⟩
theorem RF2 {X:World} {b:Nat} {u0 u1:Value} {T:TypeId} (h:Row X b (.cells #[u0,u1] T)):b<X.heap.size∧X.cell? ⟨b,0,none⟩=some u0∧X.cell? ⟨b,1,none⟩=some u1:=⟨h.1,Row.cell_at h 0 rfl,Row.cell_at h 1 rfl⟩
theorem RF3 {X:World} {b:Nat} {u0 u1 u2:Value} {T:TypeId} (h:Row X b (.cells #[u0,u1,u2] T)):b<X.heap.size∧X.cell? ⟨b,0,none⟩=some u0∧X.cell? ⟨b,1,none⟩=some u1∧X.cell? ⟨b,2,none⟩=some u2:=⟨h.1,Row.cell_at h 0 rfl,Row.cell_at h 1 rfl,Row.cell_at h 2 rfl⟩
theorem RF4 {X:World} {b:Nat} {u0 u1 u2 u3:Value} {T:TypeId} (h:Row X b (.cells #[u0,u1,u2,u3] T)):b<X.heap.size∧X.cell? ⟨b,0,none⟩=some u0∧X.cell? ⟨b,1,none⟩=some u1∧X.cell? ⟨b,2,none⟩=some u2∧X.cell? ⟨b,3,none⟩=some u3:=⟨h.1,Row.cell_at h 0 rfl,Row.cell_at h 1 rfl,Row.cell_at h 2 rfl,Row.cell_at h 3 rfl⟩
theorem RF5 {X:World} {b:Nat} {u0 u1 u2 u3 u4:Value} {T:TypeId} (h:Row X b (.cells #[u0,u1,u2,u3,u4] T)):b<X.heap.size∧X.cell? ⟨b,0,none⟩=some u0∧X.cell? ⟨b,1,none⟩=some u1∧X.cell? ⟨b,2,none⟩=some u2∧X.cell? ⟨b,3,none⟩=some u3∧X.cell? ⟨b,4,none⟩=some u4:=⟨h.1,Row.cell_at h 0 rfl,Row.cell_at h 1 rfl,Row.cell_at h 2 rfl,Row.cell_at h 3 rfl,Row.cell_at h 4 rfl⟩
theorem RF6 {X:World} {b:Nat} {u0 u1 u2 u3 u4 u5:Value} {T:TypeId} (h:Row X b (.cells #[u0,u1,u2,u3,u4,u5] T)):b<X.heap.size∧X.cell? ⟨b,0,none⟩=some u0∧X.cell? ⟨b,1,none⟩=some u1∧X.cell? ⟨b,2,none⟩=some u2∧X.cell? ⟨b,3,none⟩=some u3∧X.cell? ⟨b,4,none⟩=some u4∧X.cell? ⟨b,5,none⟩=some u5:=⟨h.1,Row.cell_at h 0 rfl,Row.cell_at h 1 rfl,Row.cell_at h 2 rfl,Row.cell_at h 3 rfl,Row.cell_at h 4 rfl,Row.cell_at h 5 rfl⟩
theorem RFz2 {X:World} {b:Nat} {u0 u1:Value} {T:TypeId} (h:Row X b (.cells #[u0,u1] T)):b<X.heap.size∧X.cell? ⟨b,0,none⟩=some u0∧X.cell? ⟨b,1,none⟩=some u1∧X.frozen? ⟨b,0,none⟩=false∧X.frozen? ⟨b,1,none⟩=false:=⟨h.1,Row.cell_at h 0 rfl,Row.cell_at h 1 rfl,frozen_of_row _ _ 0 _ _ h.2,frozen_of_row _ _ 1 _ _ h.2⟩
theorem RFz4 {X:World} {b:Nat} {u0 u1 u2 u3:Value} {T:TypeId} (h:Row X b (.cells #[u0,u1,u2,u3] T)):b<X.heap.size∧X.cell? ⟨b,0,none⟩=some u0∧X.cell? ⟨b,1,none⟩=some u1∧X.cell? ⟨b,2,none⟩=some u2∧X.cell? ⟨b,3,none⟩=some u3∧X.frozen? ⟨b,0,none⟩=false∧X.frozen? ⟨b,1,none⟩=false∧X.frozen? ⟨b,2,none⟩=false∧X.frozen? ⟨b,3,none⟩=false:=⟨h.1,Row.cell_at h 0 rfl,Row.cell_at h 1 rfl,Row.cell_at h 2 rfl,Row.cell_at h 3 rfl,frozen_of_row _ _ 0 _ _ h.2,frozen_of_row _ _ 1 _ _ h.2,frozen_of_row _ _ 2 _ _ h.2,frozen_of_row _ _ 3 _ _ h.2⟩
theorem RFz5 {X:World} {b:Nat} {u0 u1 u2 u3 u4:Value} {T:TypeId} (h:Row X b (.cells #[u0,u1,u2,u3,u4] T)):b<X.heap.size∧X.cell? ⟨b,0,none⟩=some u0∧X.cell? ⟨b,1,none⟩=some u1∧X.cell? ⟨b,2,none⟩=some u2∧X.cell? ⟨b,3,none⟩=some u3∧X.cell? ⟨b,4,none⟩=some u4∧X.frozen? ⟨b,0,none⟩=false∧X.frozen? ⟨b,1,none⟩=false∧X.frozen? ⟨b,2,none⟩=false∧X.frozen? ⟨b,3,none⟩=false∧X.frozen? ⟨b,4,none⟩=false:=⟨h.1,Row.cell_at h 0 rfl,Row.cell_at h 1 rfl,Row.cell_at h 2 rfl,Row.cell_at h 3 rfl,Row.cell_at h 4 rfl,frozen_of_row _ _ 0 _ _ h.2,frozen_of_row _ _ 1 _ _ h.2,frozen_of_row _ _ 2 _ _ h.2,frozen_of_row _ _ 3 _ _ h.2,frozen_of_row _ _ 4 _ _ h.2⟩
theorem St0 {A X W:World} (hB:Below A.heap.size A X) (h1:Below X.heap.size X W):Below A.heap.size A W:=hB.trans (h1.mono hB.size)
theorem St1 {A X W:World} {b0:Nat} {o0:Obj} (hB:Below A.heap.size A X) (h1:Below X.heap.size X W) (r0:Row X b0 o0):Below A.heap.size A W∧Row W b0 o0:=⟨hB.trans (h1.mono hB.size),Row.below r0 h1⟩
theorem St2 {A X W:World} {b0 b1:Nat} {o0 o1:Obj} (hB:Below A.heap.size A X) (h1:Below X.heap.size X W) (r0:Row X b0 o0) (r1:Row X b1 o1):Below A.heap.size A W∧Row W b0 o0∧Row W b1 o1:=⟨hB.trans (h1.mono hB.size),Row.below r0 h1,Row.below r1 h1⟩
theorem St3 {A X W:World} {b0 b1 b2:Nat} {o0 o1 o2:Obj} (hB:Below A.heap.size A X) (h1:Below X.heap.size X W) (r0:Row X b0 o0) (r1:Row X b1 o1) (r2:Row X b2 o2):Below A.heap.size A W∧Row W b0 o0∧Row W b1 o1∧Row W b2 o2:=⟨hB.trans (h1.mono hB.size),Row.below r0 h1,Row.below r1 h1,Row.below r2 h1⟩
theorem St4 {A X W:World} {b0 b1 b2 b3:Nat} {o0 o1 o2 o3:Obj} (hB:Below A.heap.size A X) (h1:Below X.heap.size X W) (r0:Row X b0 o0) (r1:Row X b1 o1) (r2:Row X b2 o2) (r3:Row X b3 o3):Below A.heap.size A W∧Row W b0 o0∧Row W b1 o1∧Row W b2 o2∧Row W b3 o3:=⟨hB.trans (h1.mono hB.size),Row.below r0 h1,Row.below r1 h1,Row.below r2 h1,Row.below r3 h1⟩
theorem St5 {A X W:World} {b0 b1 b2 b3 b4:Nat} {o0 o1 o2 o3 o4:Obj} (hB:Below A.heap.size A X) (h1:Below X.heap.size X W) (r0:Row X b0 o0) (r1:Row X b1 o1) (r2:Row X b2 o2) (r3:Row X b3 o3) (r4:Row X b4 o4):Below A.heap.size A W∧Row W b0 o0∧Row W b1 o1∧Row W b2 o2∧Row W b3 o3∧Row W b4 o4:=⟨hB.trans (h1.mono hB.size),Row.below r0 h1,Row.below r1 h1,Row.below r2 h1,Row.below r3 h1,Row.below r4 h1⟩
theorem St6 {A X W:World} {b0 b1 b2 b3 b4 b5:Nat} {o0 o1 o2 o3 o4 o5:Obj} (hB:Below A.heap.size A X) (h1:Below X.heap.size X W) (r0:Row X b0 o0) (r1:Row X b1 o1) (r2:Row X b2 o2) (r3:Row X b3 o3) (r4:Row X b4 o4) (r5:Row X b5 o5):Below A.heap.size A W∧Row W b0 o0∧Row W b1 o1∧Row W b2 o2∧Row W b3 o3∧Row W b4 o4∧Row W b5 o5:=⟨hB.trans (h1.mono hB.size),Row.below r0 h1,Row.below r1 h1,Row.below r2 h1,Row.below r3 h1,Row.below r4 h1,Row.below r5 h1⟩
theorem St7 {A X W:World} {b0 b1 b2 b3 b4 b5 b6:Nat} {o0 o1 o2 o3 o4 o5 o6:Obj} (hB:Below A.heap.size A X) (h1:Below X.heap.size X W) (r0:Row X b0 o0) (r1:Row X b1 o1) (r2:Row X b2 o2) (r3:Row X b3 o3) (r4:Row X b4 o4) (r5:Row X b5 o5) (r6:Row X b6 o6):Below A.heap.size A W∧Row W b0 o0∧Row W b1 o1∧Row W b2 o2∧Row W b3 o3∧Row W b4 o4∧Row W b5 o5∧Row W b6 o6:=⟨hB.trans (h1.mono hB.size),Row.below r0 h1,Row.below r1 h1,Row.below r2 h1,Row.below r3 h1,Row.below r4 h1,Row.below r5 h1,Row.below r6 h1⟩
theorem St8 {A X W:World} {b0 b1 b2 b3 b4 b5 b6 b7:Nat} {o0 o1 o2 o3 o4 o5 o6 o7:Obj} (hB:Below A.heap.size A X) (h1:Below X.heap.size X W) (r0:Row X b0 o0) (r1:Row X b1 o1) (r2:Row X b2 o2) (r3:Row X b3 o3) (r4:Row X b4 o4) (r5:Row X b5 o5) (r6:Row X b6 o6) (r7:Row X b7 o7):Below A.heap.size A W∧Row W b0 o0∧Row W b1 o1∧Row W b2 o2∧Row W b3 o3∧Row W b4 o4∧Row W b5 o5∧Row W b6 o6∧Row W b7 o7:=⟨hB.trans (h1.mono hB.size),Row.below r0 h1,Row.below r1 h1,Row.below r2 h1,Row.below r3 h1,Row.below r4 h1,Row.below r5 h1,Row.below r6 h1,Row.below r7 h1⟩
end Go.Proofs.YtnokpldomlmamaaGreatDoor
namespace Go.Proofs.YtnokpldomlmamaaGreatDoor
open Go Go.RowKit Go.Lib Go.Shelf
inductive QItem where
 | val (v:Value)
 | say (S:QSay)
def QItem.sp:QItem→QSay
 | .val v=>fun u _=>u=v
 | .say S=>S
def itemSp (l:List QItem) (i:Nat):QSay:=match l[i]? with | some q=>q.sp | none=>fun _ _=>True
def qMono (S:QSay):Prop:=∀ v W W',S v W→Below W.heap.size W W'→S v W'
def itemsMono:List QItem→Prop
 | []=>True
 | .val _ :: l=>itemsMono l
 | .say S :: l=>qMono S∧itemsMono l
theorem itemsMono.get:∀ {l:List QItem},itemsMono l→∀ i v W W',itemSp l i v W→Below W.heap.size W W'→itemSp l i v W'
 | [],_,i,v,W,W',h,_=>by simp [itemSp]
 | .val u :: l,hm,0,v,W,W',h,_=>h
 | .say S :: l,hm,0,v,W,W',h,hB=>hm.1 v W W' h hB
 | .val u :: l,hm,i+1,v,W,W',h,hB=>itemsMono.get (l:=l) hm i v W W' h hB
 | .say S :: l,hm,i+1,v,W,W',h,hB=>itemsMono.get (l:=l) hm.2 i v W W' h hB
def itemOb (P:Program) (ops:Array Oper) (fl:List Oper) (items:List QItem) (tmps:Array Value) (w:World) (o:Oper) (q:QItem):Prop :=
 ∀ (ρ:Operand→Value) (W:World),Below w.heap.size w W→(∀ v,ρ (.const v)=v)→(∀ g,ρ (.global g) = .pointer (some ⟨g,0,none⟩))→(∀ f,ρ (.func f) = .func (.func f) #[] #[]) →
  (∀ t,foreign fl t=true→ρ (.tmp t)=tmps.getD t undef)→depsSay ops (itemSp items) ρ W o.after.toList →
  if Region.wanted o (yieldedBy ops ρ) then quietly P q.sp W ((execOp ρ o).run P W) else q.sp undef W
def allItems (P:Program) (ops:Array Oper) (fl:List Oper) (items:List QItem) (tmps:Array Value) (w:World):List Oper→List QItem→Prop
 | o :: l,q :: qs=>itemOb P ops fl items tmps w o q∧allItems P ops fl items tmps w l qs
 | [],_=>True
 | _ :: _,[]=>False
theorem allItems.cons {P:Program} {ops:Array Oper} {fl:List Oper} {items:List QItem} {tmps:Array Value} {w:World} {o:Oper} {l:List Oper} {q:QItem} {qs:List QItem} (h:itemOb P ops fl items tmps w o q) (h':allItems P ops fl items tmps w l qs):allItems P ops fl items tmps w (o :: l) (q :: qs):=⟨h,h'⟩
theorem allItems.quiet {P:Program} {ops:Array Oper} {fl:List Oper} {items:List QItem} {tmps:Array Value} {w:World}:∀ (l:List Oper) (qs:List QItem) (k:Nat),allItems P ops fl items tmps w l qs→(∀ i,qs[i]? = items[k+i]?)→allQuiet P ops fl (itemSp items) tmps w k l
 | [],_,_,_,_=>trivial
 | o :: l,[],_,h,_=>h.elim
 | o :: l,q :: qs,k,h,hq=>by
  have e:itemSp items k=q.sp:=by
   have:=hq 0
   rw [Nat.add_zero] at this
   unfold itemSp;rw [← this];rfl
  refine ⟨?_,allItems.quiet l qs (k+1) h.2 (fun i=>by have:=hq (i+1);simpa [Nat.add_assoc,Nat.add_comm 1 i] using this)⟩
  intro ρ W h1 h2 h3 h4 h5 h6
  rw [e]
  exact h.1 ρ W h1 h2 h3 h4 h5 h6
def setItems (W:World) (K:Array Value→Prop):List Oper→List QItem→Array Value→Prop
 | o :: l,.val v :: qs,T=>setItems W K l qs (match o.dst with | some d=>T.setIfInBounds d v | none=>T)
 | o :: l,.say S :: qs,T=>match o.dst with | some d=>∀ v,S v W→setItems W K l qs (T.setIfInBounds d v) | none=>setItems W K l qs T
 | _,_,T=>K T
theorem setItems_done {items:List QItem} {K:Array Value→World→Prop} {W:World}:∀ (l:List Oper) (qs:List QItem) (k:Nat) (T:Array Value),l.length=qs.length→(∀ i,qs[i]? = items[k+i]?)→setItems W (fun T=>K T W) l qs T→quietDone (itemSp items) K W k l T
 | [],[],_,_,_,_,h=>h
 | [],_ :: _,_,_,hl,_,_=>by simp at hl
 | _ :: _,[],_,_,hl,_,_=>by simp at hl
 | o :: l,q :: qs,k,T,hl,hq,h=>by
  have e:itemSp items k=q.sp:=by
   have:=hq 0
   rw [Nat.add_zero] at this
   unfold itemSp;rw [← this];rfl
  have ih:∀ T,setItems W (fun T=>K T W) l qs T→quietDone (itemSp items) K W (k+1) l T:=fun T h=>setItems_done l qs (k+1) T (by simpa using hl) (fun i=>by have:=hq (i+1);simpa [Nat.add_assoc,Nat.add_comm 1 i] using this) h
  unfold quietDone
  rw [e]
  cases q with
  | val v =>
   cases hd:o.dst with
   | none=>simp only [setItems,hd] at h;exact ih T h
   | some t=>simp only [setItems,hd] at h;intro u hu;have hu:u=v:=hu;subst hu;exact ih _ h
  | say S =>
   cases hd:o.dst with
   | none=>simp only [setItems,hd] at h;exact ih T h
   | some t=>simp only [setItems,hd] at h;intro u hu;exact ih _ (h u hu)
/-- **A region that draws its order; its first n operations are said of by items; the others wait, each, for all ahead of them.** -/
theorem wp_region_items {P:Program} {ops:Array Oper} {Q:Exit→Act→World→Prop} {id:Nat} {tmps:Array Value} {ds:List Deferred} {w:World} (n:Nat) (items:List QItem) (hm:P.follows .mixedOrders=true)
  (htail:(tailFit ops n && quietFit ops tmps.size && decide (n≤ops.size) && decide ((ops.toList.take n).length=items.length))=true) (hmono:itemsMono items) (hall:allItems P ops (ops.toList.take n) items tmps w (ops.toList.take n) items)
  (hdone:∀ W,Below w.heap.size w W→setItems W (fun T=>wpList P ops Q (ops.toList.drop n) ⟨T,ds⟩ W) (ops.toList.take n) items tmps):(Code.region id ops true).wp P Q ⟨tmps,ds⟩ w:=by
 simp only [Bool.and_eq_true,decide_eq_true_eq] at htail
 exact wp_region_tail n (itemSp items) hm hmono.get htail.1.2 htail.1.1.1 htail.1.1.2 (allItems.quiet _ _ 0 hall (fun i=>by simp)) fun W hW=>setItems_done _ _ 0 _ htail.2 (fun i=>by simp) (hdone W hW)
/-- A new block. -/
def fresh (n:Nat) (o:Obj):QSay:=fun v W=>∃ b,v = .pointer (some ⟨b,0,none⟩)∧n≤b∧Row W b o
theorem fresh_mono (n:Nat) (o:Obj):qMono (fresh n o):=fun v W W' ⟨b,e,hb,hr⟩ hB=>⟨b,e,hb,Row.below hr hB⟩
theorem fresh_new {w X:World} (h:Below w.heap.size w X) (o:Obj):fresh w.heap.size o (.pointer (some ⟨X.heap.size,0,none⟩)) (X.alloc o)∧Below X.heap.size X (X.alloc o):=⟨⟨X.heap.size,rfl,h.size,row_new _ _⟩,(Below.refl _ _).alloc (Nat.le_refl _) _⟩
/-- An operation that reads no memory. -/
theorem qi0 {p:Prop} (h:p:=by intro ρ X qX qc qg qf qt qd;simp [depsSay,itemSp,QItem.sp,Region.binds] at qd;simp [Region.wanted,yieldedBy,quietly,QItem.sp,execOp,go_sem,foreign,qc,qd,qt,Below.refl]):p:=h
/-- The same, with a fact. -/
theorem qif {p q:Prop} (y:q) (h:q→p:=by intro y ρ X qX qc qg qf qt qd;simp [depsSay,itemSp,QItem.sp,Region.binds] at qd;simp [Region.wanted,yieldedBy,quietly,QItem.sp,execOp,go_sem,foreign,qc,qd,qt,Below.refl,y]):p:=h y
/-- A load: what the block's cells hold. -/
theorem qi1 {p:Prop} {q:World→Prop} {w:World} (y:∀ X,Below w.heap.size w X→q X)
  (h:(∀ X,Below w.heap.size w X→q X)→p:=by intro y ρ X qX qc qg qf qt qd;simp [depsSay,itemSp,QItem.sp,Region.binds] at qd;have y':=y X qX;clear y;simp [Region.wanted,yieldedBy,quietly,QItem.sp,execOp,go_sem,foreign,qc,qd,qt,Below.refl,y']):p:=h y
/-- A call. -/
theorem qi2 {p:Prop} {P:Program} {F:FuncId} {args:Array Value} {R:World→Ending→World→Prop} {w:World} (y:∀ X,Below w.heap.size w X→Calls P F args X (R X))
  (h:(∀ X,Below w.heap.size w X→Calls P F args X (R X))→p:=by intro y ρ X qX qc qg qf qt qd;simp [depsSay,itemSp,QItem.sp,Region.binds] at qd;simp [Region.wanted,yieldedBy,quietly,QItem.sp,execOp,go_sem,foreign,qc,qd,qt,qf];refine ⟨Below.refl _ _,(y X qX).mono ?_⟩;rintro e Y ⟨rfl,h1⟩;exact ⟨_,rfl,rfl,h1⟩):p:=h y
/-- A call whose result is said of. -/
theorem qi3 {p:Prop} {P:Program} {F:FuncId} {args:Array Value} {R:World→Ending→World→Prop} {w:World} (y:∀ X,Below w.heap.size w X→Calls P F args X (R X))
  (h:(∀ X,Below w.heap.size w X→Calls P F args X (R X))→p:=by intro y ρ X qX qc qg qf qt qd;simp [depsSay,itemSp,QItem.sp,Region.binds] at qd;simp [Region.wanted,yieldedBy,quietly,QItem.sp,execOp,go_sem,foreign,qc,qd,qt,qf];refine ⟨Below.refl _ _,(y X qX).mono ?_⟩;rintro e Y ⟨v,rfl,hs,h1⟩;exact ⟨_,rfl,hs,h1⟩):p:=h y
/-- A new block's place. -/
theorem qia {p:Prop} (h:p:=by intro ρ X qX qc qg qf qt qd;simp [Region.wanted,yieldedBy,quietly,QItem.sp,execOp,go_sem,foreign];exact fresh_new qX _):p:=h
end Go.Proofs.YtnokpldomlmamaaGreatDoor
namespace Go.Proofs.YtnokpldomlmamaaGreatDoor
open Go Go.RowKit Go.Lib Go.Shelf
theorem fromIntS' {n:Int} (h:IsInt n) (w:World) (he:Env w):Calls Tryz.prog 187 #[.int .i64 n] w (FromOk n w):=fromInt_any n h.1 h.2 w he.tab
theorem isInt_fits {n:Int} (h:IsInt n):Fits n:=by
 unfold Fits
 have h1:n.natAbs<10 ^ 19:=by have:=h.1;have:=h.2;omega
 exact Nat.lt_of_lt_of_le h1 (Nat.pow_le_pow_right (by decide) (by decide))
theorem qof {n d:Int} (hn:IsInt n) (hd:IsInt d) (hd0:0<d) (w:World) (he:Env w):Calls Tryz.prog 127 #[.int .i64 n,.int .i64 d] w (QOk (Rat.divInt n d) w):=by
 have hB:Below w.heap.size w w:=Below.refl _ _
 have MN:=fun W (h:Env W)=>fromIntS' hn W h
 have MD:=fun W (h:Env W)=>fromIntS' hd W h
 have MK:=fun W (h:Env W)=>qmake (is_S n) (is_S d) (isInt_fits hn) (isInt_fits hd) (by omega) W h
 unfold FromOk at MN MD
 unfold QOk Q at MK
 unfold QOk Q
 generalize Rat.divInt n d=q at *
 generalize S n=sn at *
 generalize S d=sd at *
 clear hd0
 go_enter Tryz.func127, Tryz.ntmps127
 go_wp2_with fail
 have d0_o:w.heap.size≤w.heap.size:=by have:=hB.size;omega
 have sB:=hB.size
 refine world_cut (fun X=>Below w.heap.size w X∧Row X w.heap.size (.cells #[.string ⟨#[]⟩,.string ⟨#[]⟩] 23)) ⟨BW,RW⟩ ?_
 clear hB sB
 rintro V1 ⟨hB,ro⟩
 have Fo:∀ X,Row X w.heap.size (.cells #[.string ⟨#[]⟩,.string ⟨#[]⟩] 23)→(w.heap.size<X.heap.size∧X.cell? ⟨w.heap.size,0,none⟩=some (.string ⟨#[]⟩)∧X.cell? ⟨w.heap.size,1,none⟩=some (.string ⟨#[]⟩)∧X.frozen? ⟨w.heap.size,0,none⟩=false∧X.frozen? ⟨w.heap.size,1,none⟩=false):=fun X h=>⟨h.1,Row.cell_at h 0 rfl,Row.cell_at h 1 rfl,frozen_of_row _ _ 0 _ _ h.2,frozen_of_row _ _ 1 _ _ h.2⟩
 have so:=Fo _ ro
 refine (MN _ (he.below hB)).mono ?_
 rintro e W2 ⟨rfl,h1⟩
 clear so
 replace hB:=hB.trans (h1.mono hB.size)
 replace ro:=Row.below ro h1
 clear h1
 have so:=Fo _ ro
 go_wp2_with fail
 refine (MD _ (he.below hB)).mono ?_
 rintro e W3 ⟨rfl,h1⟩
 clear so
 replace hB:=hB.trans (h1.mono hB.size)
 replace ro:=Row.below ro h1
 clear h1
 have so:=Fo _ ro
 go_wp2_with fail
 refine (MK _ (he.below hB)).mono ?_
 rintro e W4 ⟨rfl,h1⟩
 clear so
 replace hB:=hB.trans (h1.mono hB.size)
 replace ro:=Row.below ro h1
 clear h1
 have so:=Fo _ ro
 go_wp2_with fail
 have sB:=hB.size
 refine post_cut (fun X=>Below w.heap.size w X∧Row X w.heap.size (.cells #[.string (S q.num),.string (S (q.den:Int))] 23)) ⟨BW,RW⟩ ?_
 clear ro
 clear so
 clear hB sB
 rintro V5 ⟨hB,ro⟩
 clear Fo
 have Fo:∀ X,Row X w.heap.size (.cells #[.string (S q.num),.string (S (q.den:Int))] 23)→(w.heap.size<X.heap.size∧X.cell? ⟨w.heap.size,0,none⟩=some (.string (S q.num))∧X.cell? ⟨w.heap.size,1,none⟩=some (.string (S (q.den:Int)))∧X.frozen? ⟨w.heap.size,0,none⟩=false∧X.frozen? ⟨w.heap.size,1,none⟩=false):=fun X h=>⟨h.1,Row.cell_at h 0 rfl,Row.cell_at h 1 rfl,frozen_of_row _ _ 0 _ _ h.2,frozen_of_row _ _ 1 _ _ h.2⟩
 have so:=Fo _ ro
 refine bodyPost_ret (v := .tuple #[.agg #[.string (S q.num),.string (S (q.den:Int))],.int .i64 0]) ?res rfl ⟨rfl,hB⟩
 case res=>simp [results,Tryz.results127, go_sem,so]
def PV (p:Pt):Value := .agg #[.int .i64 (p.t:Int),.string (S p.iv.lo.num),.string (S (p.iv.lo.den:Int)),.string (S p.iv.hi.num),.string (S (p.iv.hi.den:Int))]
end Go.Proofs.YtnokpldomlmamaaGreatDoor
namespace Go.Proofs.YtnokpldomlmamaaGreatDoor
open Go Go.RowKit Go.Lib Go.Shelf
theorem evalid (a:Iv) (ha:IDig 200 a) (w:World) (he:Env w):Calls Tryz.prog 68 #[I a] w (BoolOk (decide (a.lo≤a.hi)) w):=by
 have hB:Below w.heap.size w w:=Below.refl _ _
 have h1:=fun W (h:Env W)=>qvalid a.lo ha.1 W h
 have h2:=fun W (h:Env W)=>qvalid a.hi ha.2 W h
 have h3:=fun W (h:Env W)=>qcompare a.lo a.hi ha.1 ha.2 W h
 have dc:∀ c,decide (cmpQ a.lo a.hi≤0)=c→decide (a.lo≤a.hi)=c:=fun c h=>by rw [← h];exact decide_eq_decide.2 cmpQ_le.symm
 generalize decide (a.lo≤a.hi)=c at *
 generalize cmpQ a.lo a.hi=g at *
 show Calls Tryz.prog 68 #[.agg #[.string (S a.lo.num),.string (S (a.lo.den:Int)),.string (S a.hi.num),.string (S (a.hi.den:Int))]] w _
 go_enter Tryz.func68, Tryz.ntmps68
 go_wp2_with fail
 have sB:=hB.size
 refine world_cut (fun X=>Below w.heap.size w X∧Row X w.heap.size (.cells #[.string (S a.lo.num),.string (S (a.lo.den:Int)),.string (S a.hi.num),.string (S (a.hi.den:Int))] 30)) ⟨C1_hB,C2⟩ ?_
 clear hB sB
 rintro V1 ⟨hB,ra⟩
 have sa:=Row.cells4 ra
 refine (h1 _ (he.below hB)).mono ?_
 rintro e W2 ⟨rfl,h1⟩
 clear sa
 replace hB:=hB.trans (h1.mono hB.size)
 replace ra:=Row.below ra h1
 clear h1
 have sa:=Row.cells4 ra
 go_wp2_with fail
 refine (h2 _ (he.below hB)).mono ?_
 rintro e W3 ⟨rfl,h1⟩
 clear sa
 replace hB:=hB.trans (h1.mono hB.size)
 replace ra:=Row.below ra h1
 clear h1
 have sa:=Row.cells4 ra
 go_wp2_with fail
 refine (h3 _ (he.below hB)).mono ?_
 rintro e W4 ⟨rfl,h1⟩
 clear sa
 replace hB:=hB.trans (h1.mono hB.size)
 replace ra:=Row.below ra h1
 clear h1
 have sa:=Row.cells4 ra
 go_wp2
 go_ret
 exact ⟨by rw [dc _ rfl];rfl,hB⟩
theorem econtains_inv (a:Iv) (r:Rat) (ha:IDig 200 a) (_hr:QDig 200 r) (w:World) (he:Env w) (ho:¬ a.lo≤a.hi):Calls Tryz.prog 43 #[I a,Q r] w (BoolOk (false) w):=by
 have hB:Below w.heap.size w w:=Below.refl _ _
 have h1:=fun W (h:Env W)=>evalid a ha W h
 rw [decide_eq_false ho] at h1
 show Calls Tryz.prog 43 #[.agg #[.string (S a.lo.num),.string (S (a.lo.den:Int)),.string (S a.hi.num),.string (S (a.hi.den:Int))],.agg #[.string (S r.num),.string (S (r.den:Int))]] w _
 go_enter Tryz.func43, Tryz.ntmps43
 go_wp2_with fail
 have sB:=hB.size
 refine world_cut (fun X=>Below w.heap.size w X∧Row X w.heap.size (.cells #[.string (S a.lo.num),.string (S (a.lo.den:Int)),.string (S a.hi.num),.string (S (a.hi.den:Int))] 30)∧Row X (w.heap.size+1) (.cells #[.string (S r.num),.string (S (r.den:Int))] 23)) ⟨C1_hB,C2,C2⟩ ?_
 clear hB sB
 rintro V1 ⟨hB,ra,rr⟩
 have sa:=Row.cells4 ra
 have sr:=Row.cells2 rr
 refine (h1 _ (he.below hB)).mono ?_
 rintro e W2 ⟨rfl,h1⟩
 clear sa
 clear sr
 replace hB:=hB.trans (h1.mono hB.size)
 replace ra:=Row.below ra h1
 replace rr:=Row.below rr h1
 clear h1
 have sa:=Row.cells4 ra
 have sr:=Row.cells2 rr
 go_wp2
 go_ret
 exact ⟨rfl,hB⟩
theorem econtains_low (a:Iv) (r:Rat) (ha:IDig 200 a) (hr:QDig 200 r) (w:World) (he:Env w) (ho:a.lo≤a.hi) (hl:¬ a.lo≤r):Calls Tryz.prog 43 #[I a,Q r] w (BoolOk (false) w):=by
 have hB:Below w.heap.size w w:=Below.refl _ _
 have h1:=fun W (h:Env W)=>evalid a ha W h
 have h2:=fun W (h:Env W)=>qvalid r hr W h
 have h3:=fun W (h:Env W)=>qcompare a.lo r ha.1 hr W h
 rw [decide_eq_true ho] at h1
 have g1:=fun h=>hl (cmpQ_le.1 h)
 generalize cmpQ a.lo r=g at *
 have g2:decide (g≤0)=false:=decide_eq_false g1
 clear g1
 show Calls Tryz.prog 43 #[.agg #[.string (S a.lo.num),.string (S (a.lo.den:Int)),.string (S a.hi.num),.string (S (a.hi.den:Int))],.agg #[.string (S r.num),.string (S (r.den:Int))]] w _
 go_enter Tryz.func43, Tryz.ntmps43
 go_wp2_with fail
 have sB:=hB.size
 refine world_cut (fun X=>Below w.heap.size w X∧Row X w.heap.size (.cells #[.string (S a.lo.num),.string (S (a.lo.den:Int)),.string (S a.hi.num),.string (S (a.hi.den:Int))] 30)∧Row X (w.heap.size+1) (.cells #[.string (S r.num),.string (S (r.den:Int))] 23)) ⟨C1_hB,C2,C2⟩ ?_
 clear hB sB
 rintro V1 ⟨hB,ra,rr⟩
 have sa:=Row.cells4 ra
 have sr:=Row.cells2 rr
 refine (h1 _ (he.below hB)).mono ?_
 rintro e W2 ⟨rfl,h1⟩
 clear sa
 clear sr
 replace hB:=hB.trans (h1.mono hB.size)
 replace ra:=Row.below ra h1
 replace rr:=Row.below rr h1
 clear h1
 have sa:=Row.cells4 ra
 have sr:=Row.cells2 rr
 go_wp2_with fail
 refine (h2 _ (he.below hB)).mono ?_
 rintro e W3 ⟨rfl,h1⟩
 clear sa
 clear sr
 replace hB:=hB.trans (h1.mono hB.size)
 replace ra:=Row.below ra h1
 replace rr:=Row.below rr h1
 clear h1
 have sa:=Row.cells4 ra
 have sr:=Row.cells2 rr
 go_wp2_with fail
 refine (h3 _ (he.below hB)).mono ?_
 rintro e W4 ⟨rfl,h1⟩
 clear sa
 clear sr
 replace hB:=hB.trans (h1.mono hB.size)
 replace ra:=Row.below ra h1
 replace rr:=Row.below rr h1
 clear h1
 have sa:=Row.cells4 ra
 have sr:=Row.cells2 rr
 go_wp2
 go_ret
 exact ⟨rfl,hB⟩
theorem econtains_in (a:Iv) (r:Rat) (ha:IDig 200 a) (hr:QDig 200 r) (w:World) (he:Env w) (ho:a.lo≤a.hi) (hl:a.lo≤r):Calls Tryz.prog 43 #[I a,Q r] w (BoolOk (decide (r≤a.hi)) w):=by
 have hB:Below w.heap.size w w:=Below.refl _ _
 have h1:=fun W (h:Env W)=>evalid a ha W h
 have h2:=fun W (h:Env W)=>qvalid r hr W h
 have h3:=fun W (h:Env W)=>qcompare a.lo r ha.1 hr W h
 have h4:=fun W (h:Env W)=>qcompare r a.hi hr ha.2 W h
 rw [decide_eq_true ho] at h1
 have g1:=cmpQ_le.2 hl
 generalize cmpQ a.lo r=g at *
 have dc:∀ c,decide (cmpQ r a.hi≤0)=c→decide (r≤a.hi)=c:=fun c h=>by rw [← h];exact decide_eq_decide.2 cmpQ_le.symm
 generalize decide (r≤a.hi)=c at *
 generalize cmpQ r a.hi=k at *
 have g2:decide (g≤0)=true:=decide_eq_true g1
 clear g1
 show Calls Tryz.prog 43 #[.agg #[.string (S a.lo.num),.string (S (a.lo.den:Int)),.string (S a.hi.num),.string (S (a.hi.den:Int))],.agg #[.string (S r.num),.string (S (r.den:Int))]] w _
 go_enter Tryz.func43, Tryz.ntmps43
 go_wp2_with fail
 have sB:=hB.size
 refine world_cut (fun X=>Below w.heap.size w X∧Row X w.heap.size (.cells #[.string (S a.lo.num),.string (S (a.lo.den:Int)),.string (S a.hi.num),.string (S (a.hi.den:Int))] 30)∧Row X (w.heap.size+1) (.cells #[.string (S r.num),.string (S (r.den:Int))] 23)) ⟨C1_hB,C2,C2⟩ ?_
 clear hB sB
 rintro V1 ⟨hB,ra,rr⟩
 have sa:=Row.cells4 ra
 have sr:=Row.cells2 rr
 refine (h1 _ (he.below hB)).mono ?_
 rintro e W2 ⟨rfl,h1⟩
 clear sa
 clear sr
 replace hB:=hB.trans (h1.mono hB.size)
 replace ra:=Row.below ra h1
 replace rr:=Row.below rr h1
 clear h1
 have sa:=Row.cells4 ra
 have sr:=Row.cells2 rr
 go_wp2_with fail
 refine (h2 _ (he.below hB)).mono ?_
 rintro e W3 ⟨rfl,h1⟩
 clear sa
 clear sr
 replace hB:=hB.trans (h1.mono hB.size)
 replace ra:=Row.below ra h1
 replace rr:=Row.below rr h1
 clear h1
 have sa:=Row.cells4 ra
 have sr:=Row.cells2 rr
 go_wp2_with fail
 refine (h3 _ (he.below hB)).mono ?_
 rintro e W4 ⟨rfl,h1⟩
 clear sa
 clear sr
 replace hB:=hB.trans (h1.mono hB.size)
 replace ra:=Row.below ra h1
 replace rr:=Row.below rr h1
 clear h1
 have sa:=Row.cells4 ra
 have sr:=Row.cells2 rr
 go_wp2_with fail
 refine (h4 _ (he.below hB)).mono ?_
 rintro e W5 ⟨rfl,h1⟩
 clear sa
 clear sr
 replace hB:=hB.trans (h1.mono hB.size)
 replace ra:=Row.below ra h1
 replace rr:=Row.below rr h1
 clear h1
 have sa:=Row.cells4 ra
 have sr:=Row.cells2 rr
 go_wp2
 go_ret
 exact ⟨by rw [dc _ rfl];rfl,hB⟩
/-- Contains, of whatever interval with valid ends. -/
theorem econtains (a:Iv) (r:Rat) (ha:IDig 200 a) (hr:QDig 200 r) (w:World) (he:Env w):Calls Tryz.prog 43 #[I a,Q r] w (BoolOk (decide (a.lo≤r∧r≤a.hi)) w):=by
 by_cases hl:a.lo≤r
 ·by_cases ho:a.lo≤a.hi
  ·rw [show decide (a.lo≤r∧r≤a.hi)=decide (r≤a.hi) from decide_eq_decide.2 ⟨fun h=>h.2,fun h=>⟨hl,h⟩⟩]
   exact econtains_in a r ha hr w he ho hl
  ·rw [decide_eq_false (fun h:a.lo≤r∧r≤a.hi=>ho (Rat.le_trans h.1 h.2))]
   exact econtains_inv a r ha hr w he ho
 ·rw [decide_eq_false (fun h:a.lo≤r∧r≤a.hi=>hl h.1)]
  by_cases ho:a.lo≤a.hi
  ·exact econtains_low a r ha hr w he ho hl
  ·exact econtains_inv a r ha hr w he ho
theorem Q_zero:Q 0 = .agg #[.string ⟨#[48]⟩,.string ⟨#[49]⟩]:=by
 show Value.agg #[.string (S 0),.string (S 1)]=_
 rw [S_zero,S_one]
theorem ezero (w:World):Calls Tryz.prog 210 #[] w fun e w'=>e = .returned (Q 0)∧Below w.heap.size w w':=by
 have hB:Below w.heap.size w w:=Below.refl _ _
 rw [Q_zero]
 go_enter Tryz.func210, Tryz.ntmps210
 go_wp2
 have sB:=hB.size
 refine post_cut (fun X=>Below w.heap.size w X∧Row X w.heap.size (.cells #[.string ⟨#[48]⟩,.string ⟨#[49]⟩] 23)) ⟨C1_hB,C2⟩ ?_
 clear hB sB
 rintro V1 ⟨hB,rz⟩
 have sz:=Row.cells2 rz
 refine bodyPost_ret (v := .agg #[.string ⟨#[48]⟩,.string ⟨#[49]⟩]) ?res rfl ⟨rfl,hB⟩
 case res=>simp [results,Tryz.results210, go_sem,sz]
end Go.Proofs.YtnokpldomlmamaaGreatDoor
