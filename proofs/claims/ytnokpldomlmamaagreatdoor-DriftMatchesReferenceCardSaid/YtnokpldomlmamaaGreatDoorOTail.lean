/-
 A loop, round by round: for loops whose number of rounds is known. Chains of tactics behind the names of theorems whose last argument is automatic: the chain runs where the name stands. Rows, what lies below, and the obligations of a region whose values are known. Histories in memory: what a slice of points holds; copies within rows of elements of more than one cell. The exported functions, over strings: FromInt. Package rational: the comparison, by whole parts, and then upside down. What the cells of a block of few cells hold: all at once. Regions that draw their order and end in stores: what each operation hands back is known, or is said of; the obligations, one an operation.
-/
import Derived.BigRegion
import Derived.Laws.CopyRow
import Derived.Laws.IdiomCopy
import Derived.Maps.AppendAt
import Derived.OneCell
import Derived.ScopeJumps
import Derived.WalkMore
import Derived.Test.YtnokpldomlmamaaGreatDoorODPlain2
import Derived.Test.YtnokpldomlmamaaGreatDoorOEnv12
import Derived.Test.YtnokpldomlmamaaGreatDoorOLaw1
import Derived.Test.YtnokpldomlmamaaGreatDoorOQuiet
import Derived.Test.YtnokpldomlmamaaGreatDoorOStr3
set_option linter.unusedSimpArgs false
set_option linter.unusedVariables false
set_option maxRecDepth 100000
set_option maxHeartbeats 2000000
namespace Go.Proofs.YtnokpldomlmamaaGreatDoor
open Go Go.RowKit Go.Lib Go.Shelf
/-- The loop's body stands ahead, the loop behind it. -/
def loopWp (P:Program) (c:Code) (Q:Exit→Act→World→Prop) (a:Act) (w:World):Prop :=
 ∀ (b:Frame) (k:List Item) (cs:List Frame),∃ e a' w',Q e a' w'∧Arrives P (lone (b.at a (.code c :: .inLoop c :: k)) cs w) b k cs e a' w'
theorem wp_loop_unroll {P:Program} {c:Code} {Q:Exit→Act→World→Prop} {a:Act} {w:World} (h:loopWp P c Q a w):(Code.loop c).wp P Q a w :=
 fun b k cs=>let ⟨e,a',w',q,r⟩:=h b k cs;⟨e,a',w',q,.of_steps (.one step_loop) r⟩
theorem loopWp_step {P:Program} {c:Code} {Q:Exit→Act→World→Prop} {a:Act} {w:World} (h:c.wp P (Exit.then (loopWp P c Q) Q) a w):loopWp P c Q a w:=by
 intro b k cs
 obtain ⟨e,a₁,w₁,hq,harr⟩:=h b (.inLoop c :: k) cs
 cases e with
 | normal =>
  obtain ⟨e₂,a₂,w₂,hq₂,harr₂⟩:=hq b k cs
  exact ⟨e₂,a₂,w₂,hq₂,.of_steps (Steps.trans harr (.one step_inLoop)) harr₂⟩
 | exit id=>exact ⟨_,a₁,w₁,hq,.pass (x := .inLoop c) rfl (fun _ _ => .inl (by simp)) harr⟩
 | goto l=>exact ⟨_,a₁,w₁,hq,.pass (x := .inLoop c) rfl (fun _ _ => .inl (by simp)) harr⟩
 | ret=>exact ⟨_,a₁,w₁,hq,.pass (x := .inLoop c) rfl (fun _ _ => .inl (by simp)) harr⟩
 | panic ch=>exact ⟨_,a₁,w₁,hq,.pass (x := .inLoop c) rfl (fun _ _ => .inl (by simp)) harr⟩
 | outgrown=>exact ⟨_,a₁,w₁,hq,.pass (x := .inLoop c) rfl (fun _ _ => .inl (by simp)) harr⟩
end Go.Proofs.YtnokpldomlmamaaGreatDoor
namespace Go.Proofs.YtnokpldomlmamaaGreatDoor
open Go Go.RowKit Go.Lib Go.Shelf
theorem Row.cell_lit {W:World} {b:Nat} {vs:Array Value} {t:TypeId} (h:Row W b (.cells vs t)) (i:Nat) {v:Value} (hv:vs[i]? = some v):W.cell? ⟨b,i,none⟩=some v:=by
 have h2:W.heap[b]? = some (.cells vs t):=h.2
 simp [World.cell?,h2,hv]
theorem Row.cell_take {W:World} {g m k:Nat} {cur:Array Value} {e:TypeId} {xs:List Value} {u:Value} (h:Row W g (.cells cur e)) (hx:cur.toList.take m=xs) (hk:xs[k]? = some u):W.cell? ⟨g,k,none⟩=some u:=by
 have h1:cur[k]? = some u:=by
  rw [← hx,List.getElem?_take] at hk
  split at hk
  ·simpa using hk
  ·cases hk
 have h2:W.heap[g]? = some (.cells cur e):=h.2
 simp [World.cell?,h2,h1]
theorem Row.cell_at {W:World} {b:Nat} {vs:Array Value} {t:TypeId} (h:Row W b (.cells vs t)) (i:Nat) {v:Value} (hv:vs[i]? = some v):W.cell? ⟨b,i,none⟩=some v:=by
 have h2:W.heap[b]? = some (.cells vs t):=h.2
 simp [World.cell?,h2,hv]
theorem Row.set2a {W:World} {b:Nat} {v0 v1 u0:Value} {t:TypeId} (h:Row W b (.cells #[v0,v1] t)):Row (W.setCell ⟨b,0,none⟩ u0) b (.cells #[u0,v1] t):=h.set_same rfl
theorem Row.set2b {W:World} {b:Nat} {v0 v1 u1:Value} {t:TypeId} (h:Row W b (.cells #[v0,v1] t)):Row (W.setCell ⟨b,1,none⟩ u1) b (.cells #[v0,u1] t):=h.set_same rfl
/-- A row, from world to world. -/
theorem RW {P:Prop} (h:P:=by repeat (first | (with_reducible assumption) | (with_reducible exact row_new' (by first | omega | (simp;done) | (simp;omega))) | (with_reducible refine Row.drew ?_) | (with_reducible refine Row.drewN ?_ _) | (with_reducible refine Row.alloc ?_ _) | (with_reducible apply Row.set4) | (with_reducible apply Row.set4a) | (with_reducible apply Row.set4b) | (with_reducible apply Row.set2) | (with_reducible apply Row.set1) | (with_reducible apply Row.set2a) | (with_reducible apply Row.set2b) | (with_reducible refine Row.set_other ?_ _ (by first | omega | (simp;done) | (simp;omega))))):P:=h
/-- What lies below. -/
theorem BW {P:Prop} (h:P:=by repeat (first | (with_reducible assumption) | (with_reducible exact Below.refl _ _) | (with_reducible refine Below.drew ?_) | (with_reducible refine below_drewN ?_ _) | (with_reducible refine Below.alloc ?_ (by first | omega | (simp;done) | (simp;omega)) _) | (with_reducible refine Below.setCell ?_ (by first | omega | (simp;done) | (simp;omega)) _))):P:=h
/-- An operation that reads no memory. -/
theorem qv0 {p:Prop} (h:p:=by intro ρ X qX qc qg qf qt qd;simp [depsAre,Region.binds] at qd;simp [Region.wanted,yieldedBy,quietly,execOp,go_sem,foreign,qc,qd,qt,Below.refl]):p:=h
/-- The same, with a fact. -/
theorem qvf {p q:Prop} (y:q) (h:q→p:=by intro y ρ X qX qc qg qf qt qd;simp [depsAre,Region.binds] at qd;simp [Region.wanted,yieldedBy,quietly,execOp,go_sem,foreign,qc,qd,qt,Below.refl,y]):p:=h y
/-- A load: what the block's cells hold. -/
theorem qv1 {p:Prop} {q:World→Prop} {w:World} (y:∀ X,Below w.heap.size w X→q X)
  (h:(∀ X,Below w.heap.size w X→q X)→p:=by intro y ρ X qX qc qg qf qt qd;simp [depsAre,Region.binds] at qd;have y':=y X qX;clear y;simp [Region.wanted,yieldedBy,quietly,execOp,go_sem,foreign,qc,qd,qt,Below.refl,y']):p:=h y
/-- A store of what the cells hold already. -/
theorem setCell_same2 {X:World} {b:Nat} {v0 v1:Value} {t:TypeId} (h:Row X b (.cells #[v0,v1] t)):X.setCell ⟨b,0,none⟩ v0=X∧X.setCell ⟨b,1,none⟩ v1=X:=by
 have h2:X.heap[b]? = some (.cells #[v0,v1] t):=h.2
 have e0:(X.setCell ⟨b,0,none⟩ v0).heap=X.heap:=by
  apply Array.ext_getElem?
  intro k
  by_cases hk:k=b
  ·subst hk;simp [World.setCell,Array.getElem?_modify,h2]
  ·exact Below.heap_setCell _ _ _ _ hk
 have e1:(X.setCell ⟨b,1,none⟩ v1).heap=X.heap:=by
  apply Array.ext_getElem?
  intro k
  by_cases hk:k=b
  ·subst hk;simp [World.setCell,Array.getElem?_modify,h2]
  ·exact Below.heap_setCell _ _ _ _ hk
 cases X
 simp only [World.setCell] at e0 e1 ⊢
 rw [e0,e1]
 exact ⟨rfl,rfl⟩
/-- A call. -/
theorem qv2 {p:Prop} {P:Program} {F:FuncId} {args:Array Value} {R:World→Ending→World→Prop} {w:World} (y:∀ X,Below w.heap.size w X→Calls P F args X (R X))
  (h:(∀ X,Below w.heap.size w X→Calls P F args X (R X))→p:=by intro y ρ X qX qc qg qf qt qd;simp [depsAre,Region.binds] at qd;simp [Region.wanted,yieldedBy,quietly,execOp,go_sem,foreign,qc,qd,qt,qf];refine ⟨Below.refl _ _,(y X qX).mono ?_⟩;rintro e Y ⟨rfl,h1⟩;exact ⟨_,rfl,rfl,h1⟩):p:=h y
end Go.Proofs.YtnokpldomlmamaaGreatDoor
namespace Go.Proofs.YtnokpldomlmamaaGreatDoor
open Go Go.RowKit Go.Lib Go.Shelf
def pC (p:Pt):List Value:=[.int .i64 (p.t:Int),.string (S p.iv.lo.num),.string (S (p.iv.lo.den:Int)),.string (S p.iv.hi.num),.string (S (p.iv.hi.den:Int))]
def pCells (l:List Pt):List Value:=l.flatMap pC
theorem own_at {w:World} {base base':Nat} {e:TypeId} {size:Nat} {v:Value} {n:Nat} {xs:List Value} (h:w.ownsRow base e size v n xs) (hb:base'≤base):w.ownsRow base' e size v n xs :=
 ⟨h.1,h.2.elim .inl fun ⟨g,cap,cur,e,hg,r⟩ => .inr ⟨g,cap,cur,e,Nat.le_trans hb hg,r⟩⟩
theorem own_keep {w:World} {base:Nat} {e:TypeId} {size:Nat} {v:Value} {n:Nat} {xs:List Value} (h:w.ownsRow base e size v n xs) {b:Nat} (hb:b<base) (i:Nat) (u:Value):(w.setCell ⟨b,i,none⟩ u).ownsRow base e size v n xs :=
 ownsRow_setCell_other h (a:=⟨b,i,none⟩) (fun he=>by have:=h.lt b he;omega) u
theorem own_dr {w:World} {base:Nat} {e:TypeId} {size:Nat} {v:Value} {n:Nat} {xs:List Value} (h:w.ownsRow base e size v n xs):w.drew.ownsRow base e size v n xs:=h
theorem own_drN {w:World} {base:Nat} {e:TypeId} {size:Nat} {v:Value} {n:Nat} {xs:List Value} (h:w.ownsRow base e size v n xs) (k:Nat):(w.drewN k).ownsRow base e size v n xs:=h
/-- A row of its own, from world to world. -/
theorem OW {P:Prop} (h:P:=by repeat (first | (with_reducible assumption) | (with_reducible refine own_dr ?_) | (with_reducible refine own_drN ?_ _) | (with_reducible refine World.ownsRow.alloc ?_ _) | (with_reducible refine own_keep ?_ (by first | omega | (simp;done) | (simp;omega)) _ _))):P:=h
theorem Row.set3 {W:World} {b:Nat} {v0 v1 v2 u0 u1 u2:Value} {t:TypeId} (h:Row W b (.cells #[v0,v1,v2] t)) :
  Row (((W.setCell ⟨b,0,none⟩ u0).setCell ⟨b,1,none⟩ u1).setCell ⟨b,2,none⟩ u2) b (.cells #[u0,u1,u2] t):=((h.set_same rfl).set_same rfl).set_same rfl
theorem Row.set5 {W:World} {b:Nat} {v0 v1 v2 v3 v4 u0 u1 u2 u3 u4:Value} {t:TypeId} (h:Row W b (.cells #[v0,v1,v2,v3,v4] t)) :
  Row (((((W.setCell ⟨b,0,none⟩ u0).setCell ⟨b,1,none⟩ u1).setCell ⟨b,2,none⟩ u2).setCell ⟨b,3,none⟩ u3).setCell ⟨b,4,none⟩ u4) b (.cells #[u0,u1,u2,u3,u4] t):=((((h.set_same rfl).set_same rfl).set_same rfl).set_same rfl).set_same rfl
/-- A row, from world to world; of three and of five cells too. -/
theorem RWh {P:Prop} (h:P:=by repeat (first | (with_reducible assumption) | (with_reducible exact row_new' (by first | omega | (simp;done) | (simp;omega))) | (with_reducible refine Row.drew ?_) | (with_reducible refine Row.drewN ?_ _) | (with_reducible refine Row.alloc ?_ _) | (with_reducible apply Row.set5) | (with_reducible apply Row.set4) | (with_reducible apply Row.set3) | (with_reducible apply Row.set4a) | (with_reducible apply Row.set4b) | (with_reducible apply Row.set2) | (with_reducible apply Row.set1) | (with_reducible apply Row.set2a) | (with_reducible apply Row.set2b) | (with_reducible refine Row.set_other ?_ _ (by first | omega | (simp;done) | (simp;omega))))):P:=h
theorem pC_length (p:Pt):(pC p).length=5:=rfl
theorem pCells_nil:pCells []=[]:=rfl
theorem pCells_cons (p:Pt) (l:List Pt):pCells (p :: l)=pC p ++ pCells l:=rfl
theorem pCells_length (l:List Pt):(pCells l).length=l.length * 5:=by
 induction l with
 | nil=>rfl
 | cons p l ih=>rw [pCells_cons,List.length_append,ih,pC_length,List.length_cons];omega
theorem pCells_app (l m:List Pt):pCells (l ++ m)=pCells l ++ pCells m:=by unfold pCells;simp
theorem pCells_take:∀ (l:List Pt) (k:Nat),pCells (l.take k)=(pCells l).take (k * 5)
 | [],k=>by simp [pCells]
 | p :: l,0=>by simp [pCells]
 | p :: l,k+1=>by
  rw [List.take_succ_cons,pCells_cons,pCells_cons,pCells_take l k,show (k+1) * 5=(pC p).length+k * 5 by rw [pC_length];omega,List.take_length_add_append]
theorem pCells_drop:∀ (l:List Pt) (k:Nat),pCells (l.drop k)=(pCells l).drop (k * 5)
 | [],k=>by simp [pCells]
 | p :: l,0=>by simp [pCells]
 | p :: l,k+1=>by
  rw [List.drop_succ_cons,pCells_cons,pCells_drop l k,show (k+1) * 5=(pC p).length+k * 5 by rw [pC_length];omega,List.drop_length_add_append]
theorem pCells_get {l:List Pt} {i:Nat} (h:i<l.length) (j:Nat) (hj:j<5):(pCells l)[i * 5+j]? = (pC (ptD l i))[j]? := by
 have e:l=l.take i ++ ptD l i :: l.drop (i+1):=by
  have:ptD l i=l[i]:=by unfold ptD;rw [List.getD_eq_getElem?_getD,List.getElem?_eq_getElem h];rfl
  rw [this]
  exact (List.take_append_drop i l).symm.trans (by rw [List.drop_eq_getElem_cons h])
 have e2:pCells l=pCells (l.take i) ++ (pC (ptD l i) ++ pCells (l.drop (i+1))):=by
  rw [← pCells_cons,← pCells_app,← e]
 have hl:(pCells (l.take i)).length=i * 5:=by rw [pCells_length,List.length_take,Nat.min_eq_left (by omega)]
 rw [e2,List.getElem?_append_right (by omega),hl,Nat.add_sub_cancel_left,List.getElem?_append_left (by rw [pC_length];exact hj)]
theorem pCells_one (l:List Pt):∀ v ∈ pCells l,v.oneCell'=true:=by
 intro v hv
 obtain ⟨p,_,hp⟩:=List.mem_flatMap.1 hv
 simp only [pC,List.mem_cons,List.not_mem_nil,or_false] at hp
 rcases hp with rfl | rfl | rfl | rfl | rfl <;> rfl
/-- A slice value holds these points. -/
def PRow (W:World) (s:Value) (l:List Pt):Prop:=W.ownsRow 0 32 5 s l.length (pCells l)
/-- A history, as a value. -/
def HV (h:Hist) (s:Value):Value := .agg #[.string (S h.rate.num),.string (S (h.rate.den:Int)),s]
theorem PRow.nil (W:World):PRow W (.slice none 0 0) []:=⟨rfl,.inl ⟨rfl,rfl⟩⟩
/-- What of a row the walks want. -/
def PAt (W:World) (p:Option Addr) (l:List Pt):Prop:=(l=[]∧(p=none∨∃ g,p=some ⟨g,0,none⟩))∨∃ g cur,p=some ⟨g,0,none⟩∧Row W g (.cells cur 32)∧cur.toList.take (l.length * 5)=pCells l
theorem PRow.open {W:World} {s:Value} {l:List Pt} (h:PRow W s l):∃ p c,s = .slice p l.length c∧l.length≤c∧c≤maxLen∧PAt W p l:=by
 obtain ⟨_,⟨rfl,hn⟩ | ⟨g,cap,cur,rfl,_,hg,hc,hm,_,hx⟩⟩:=h
 ·exact ⟨none,0,by rw [hn],by omega,by unfold maxLen;omega,.inl ⟨List.length_eq_zero_iff.1 hn,.inl rfl⟩⟩
 ·exact ⟨some ⟨g,0,none⟩,cap,rfl,hc,hm,.inr ⟨g,cur,rfl,⟨(Array.getElem?_eq_some_iff.1 hg).1,hg⟩,hx⟩⟩
theorem PRow.below {W W':World} {s:Value} {l:List Pt} (h:PRow W s l) (hB:Below W.heap.size W W'):PRow W' s l :=
 ⟨h.1,h.2.elim .inl fun ⟨g,cap,cur,e,h0,hg,r⟩ => .inr ⟨g,cap,cur,e,h0,(hB.block g (Array.getElem?_eq_some_iff.1 hg).1).trans hg,r⟩⟩
theorem PAt.below {W W':World} {p:Option Addr} {l:List Pt} (h:PAt W p l) (hB:Below W.heap.size W W'):PAt W' p l :=
 h.elim .inl fun ⟨g,cur,e,hr,hx⟩ => .inr ⟨g,cur,e,Row.below hr hB,hx⟩
theorem own_row {W:World} {n:Nat} {s:Value} {l:List Pt} (h:W.ownsRow n 32 5 s l.length (pCells l)):PRow W s l:=own_at h (Nat.zero_le _)
/-- One point's cells. -/
theorem PAt.cells {W:World} {p:Option Addr} {l:List Pt} (h:PAt W p l) {i:Nat} (hi:i<l.length):∃ g,p=some ⟨g,0,none⟩∧g<W.heap.size
  ∧ W.cell? ⟨g,i * 5,none⟩=some (.int .i64 ((ptD l i).t:Int))∧W.cell? ⟨g,i * 5+1,none⟩=some (.string (S (ptD l i).iv.lo.num))∧W.cell? ⟨g,i * 5+2,none⟩=some (.string (S ((ptD l i).iv.lo.den:Int)))
  ∧ W.cell? ⟨g,i * 5+3,none⟩=some (.string (S (ptD l i).iv.hi.num))∧W.cell? ⟨g,i * 5+4,none⟩=some (.string (S ((ptD l i).iv.hi.den:Int))):=by
 rcases h with ⟨rfl,_⟩ | ⟨g,cur,rfl,hr,hx⟩
 ·simp at hi
 ·have key:∀ j,j<5→cur[i * 5+j]? = (pC (ptD l i))[j]? := fun j hj=>by
   rw [← pCells_get hi j hj,← hx,List.getElem?_take,if_pos (by omega),Array.getElem?_toList]
  refine ⟨g,rfl,hr.1,?_,?_,?_,?_,?_⟩
  ·exact Row.cell_lit hr _ (key 0 (by omega))
  ·exact Row.cell_lit hr _ (key 1 (by omega))
  ·exact Row.cell_lit hr _ (key 2 (by omega))
  ·exact Row.cell_lit hr _ (key 3 (by omega))
  ·exact Row.cell_lit hr _ (key 4 (by omega))
end Go.Proofs.YtnokpldomlmamaaGreatDoor
namespace Go.Proofs.YtnokpldomlmamaaGreatDoor
open Go Go.RowKit Go.Lib Go.Shelf
theorem fromInt_any (n:Int) (h0 : -9223372036854775808≤n) (h1:n≤9223372036854775807) (w:World) (ht:Tab w) :
  Calls Tryz.prog 187 #[.int .i64 n] w fun e w'=>e = .returned (.string ⟨(itoa n).toArray⟩)∧Below w.heap.size w w':=by
 go_enter Tryz.func187, Tryz.ntmps187
 go_wp2_with (go_at_call 223; go_must (refine (Tryz.strconv_Itoa n h0 h1 _ ht).mono ?_;rintro e w1 ⟨rfl,k,os,rfl⟩))
 go_ret
 exact ⟨rfl,below_grown_sl _ _ _ _ (Nat.le_refl _)⟩
end Go.Proofs.YtnokpldomlmamaaGreatDoor
namespace Go.Proofs.YtnokpldomlmamaaGreatDoor
open Go Go.RowKit Go.Lib Go.Shelf
theorem wp_scope_jumps' {P:Program} {Q:Exit→Act→World→Prop} {a:Act} {w:World} {c rest:Code} (l:Nat) (J:Act→World→Prop) (μ:Act→World→Nat) (hf:findLabel c l=some (.seq .skip rest))
  (pass:∀ a w,J a w→rest.wp P (Exit.jump l (fun a' w'=>J a' w'∧μ a' w'<μ a w) Q) a w)
  (first:(∀ a w,J a w→rest.wp P (Exit.jump l J Q) a w)→c.wp P (Exit.jump l J Q) a w):(Code.scope c).wp P Q a w:=by
 refine wp_scope_jumps l J μ hf (first fun a w hJ=>Code.wp_mono (fun e a' w' h => ?_) (pass a w hJ)) (fun a w hJ=>wp_seq (wp_skip (pass a w hJ)))
 cases e
 case goto=>exact ⟨h.1,h.2.1⟩
 all_goals exact h
/-- The number that a cell's text spells. -/
def cellZ (w:World) (b:Nat):Nat:=match w.cell? ⟨b,1,none⟩ with | some (.string s)=>(zOf s.data.toList).natAbs | _=>0
theorem cellZ_eq {w:World} {b:Nat} {z:Int} (h:w.cell? ⟨b,1,none⟩=some (.string (S z))):cellZ w b=z.natAbs:=by
 unfold cellZ;rw [h];simp only;rw [is_S z,zOf_itoa]
/-- What holds of the two fractions at each round. -/
structure CmpInv (g:Int) (s n d m e:Int):Prop where
 hd:0<d
 he:0<e
 hs:s=1∨s = -1
 val:s * cmpI (n * e) (m * d)=g
 fn:Fits n
 fd:Fits d
 fm:Fits m
 fe:Fits e
def CmpJ (w:World) (g:Int) (B:Nat) (A0 B0:Value) (a':Act) (w':World):Prop:=∃ (s n d m e:Int) (u6:Value) (u7:Value) (u8:Value) (u9:Value) (u10:Value) (u11:Value) (u12:Value) (u13:Value) (u14:Value) (u15:Value) (u16:Value) (u17:Value) (u18:Value) (u19:Value) (u20:Value) (u21:Value) (u22:Value) (u23:Value) (u24:Value) (u25:Value) (u26:Value) (u27:Value) (u28:Value) (u29:Value) (u30:Value) (u31:Value) (u32:Value) (u33:Value) (u34:Value) (u35:Value) (u36:Value) (u37:Value) (u38:Value) (u39:Value) (u40:Value) (u41:Value) (u42:Value) (u43:Value) (u44:Value) (u45:Value) (u46:Value) (u47:Value) (u48:Value) (u49:Value) (u50:Value) (u51:Value) (u52:Value) (u53:Value) (u54:Value) (u55:Value) (u56:Value) (u57:Value) (u58:Value) (u59:Value) (u60:Value) (u61:Value) (u62:Value) (u63:Value) (u64:Value) (u65:Value) (u66:Value) (u67:Value) (u68:Value) (u69:Value) (u70:Value) (u71:Value) (u72:Value) (u73:Value),a'={ tmps:=#[A0,B0,.pointer (some ⟨B,0,none⟩),.pointer (some ⟨B+1,0,none⟩),.int .i64 0,.int .i64 s,u6,u7,u8,u9,u10,u11,u12,u13,u14,u15,u16,u17,u18,u19,u20,u21,u22,u23,u24,u25,u26,u27,u28,u29,u30,u31,u32,u33,u34,u35,u36,u37,u38,u39,u40,u41,u42,u43,u44,u45,u46,u47,u48,u49,u50,u51,u52,u53,u54,u55,u56,u57,u58,u59,u60,u61,u62,u63,u64,u65,u66,u67,u68,u69,u70,u71,u72,u73],defers:=[] }∧CmpInv g s n d m e∧Row w' B (.cells #[.string (S n),.string (S d)] 23)∧Row w' (B+1) (.cells #[.string (S m),.string (S e)] 23)∧Below w.heap.size w w'
theorem dig_fits_mod {x y:Int} (h:Fits y) (hy:y≠0):Fits (x % y):=(Dig.emod (k:=200) x h hy)
theorem dig_fits_div {x:Int} (h:Fits x) (y:Int):Fits (x / y):=(Dig.ediv (k:=200) h y)
theorem qcompare (a b:Rat) (ha:QDig 200 a) (hb:QDig 200 b) (w:World) (he:Env w) :
  Calls Tryz.prog 53 #[Q a,Q b] w (CmpOk (cmpQ a b) w):=by
 obtain ⟨r1,r2,hB⟩:Row ((w.alloc (.cells #[.string (S a.num),.string (S (a.den:Int))] 23)).alloc (.cells #[.string (S b.num),.string (S (b.den:Int))] 23)) w.heap.size (.cells #[.string (S a.num),.string (S (a.den:Int))] 23)∧Row ((w.alloc (.cells #[.string (S a.num),.string (S (a.den:Int))] 23)).alloc (.cells #[.string (S b.num),.string (S (b.den:Int))] 23)) (w.heap.size+1) (.cells #[.string (S b.num),.string (S (b.den:Int))] 23)∧Below w.heap.size w ((w.alloc (.cells #[.string (S a.num),.string (S (a.den:Int))] 23)).alloc (.cells #[.string (S b.num),.string (S (b.den:Int))] 23)):=by
  refine ⟨(row_new w _).alloc _,?_,((Below.refl w.heap.size w).alloc (Nat.le_refl _) _).alloc (by simp) _⟩
  have e1:(w.alloc (.cells #[.string (S a.num),.string (S (a.den:Int))] 23)).heap.size=w.heap.size+1:=by simp
  rw [← e1];exact row_new _ _
 have I0:CmpInv (cmpQ a b) 1 a.num a.den b.num b.den:=⟨den_pos a,den_pos b,.inl rfl,by rw [Int.one_mul,cmpQ_parts],ha.1,ha.2,hb.1,hb.2⟩
 show Calls Tryz.prog 53 #[.agg #[.string (S a.num),.string (S (a.den:Int))],.agg #[.string (S b.num),.string (S (b.den:Int))]] w _
 have h1:=fun W (h:Env W)=>qvalid a ha W h
 have h2:=fun W (h:Env W)=>qvalid b hb W h
 generalize cmpQ a b=g at *
 go_enter Tryz.func53, Tryz.ntmps53
 go_wp2_with fail
 refine wp_scope_jumps' 0 (CmpJ w g w.heap.size (.agg #[.string (S a.num),.string (S (a.den:Int))]) (.agg #[.string (S b.num),.string (S (b.den:Int))])) (fun _ w'=>cellZ w' w.heap.size) rfl ?_ fun hp => ?_
 ·clear h1 h2 I0 r1 r2 hB
  generalize (Value.agg #[.string (S a.num),.string (S (a.den:Int))])=A0
  generalize (Value.agg #[.string (S b.num),.string (S (b.den:Int))])=B0
  rintro a' w' ⟨s,n,d,m,e,u6,u7,u8,u9,u10,u11,u12,u13,u14,u15,u16,u17,u18,u19,u20,u21,u22,u23,u24,u25,u26,u27,u28,u29,u30,u31,u32,u33,u34,u35,u36,u37,u38,u39,u40,u41,u42,u43,u44,u45,u46,u47,u48,u49,u50,u51,u52,u53,u54,u55,u56,u57,u58,u59,u60,u61,u62,u63,u64,u65,u66,u67,u68,u69,u70,u71,u72,u73,rfl,HI,r1,r2,hB⟩
  have hd:=Lib.hid HI.hd
  have hee:=Lib.hid HI.he
  have V:=Lib.hid HI.val
  have hs:=Lib.hid HI.hs
  obtain ⟨fn,fd,fm,fe⟩:Fits n∧Fits d∧Fits m∧Fits e:=⟨HI.fn,HI.fd,HI.fm,HI.fe⟩
  have sl : -1≤s∧s≤1:=by rcases hs.out with h | h <;> omega
  obtain ⟨sl1,sl2⟩:=sl
  clear HI
  obtain ⟨p,hp⟩:∃ p,n / d=p:=⟨_,rfl⟩
  obtain ⟨r,hr⟩:∃ r,n % d=r:=⟨_,rfl⟩
  obtain ⟨q,hq⟩:∃ q,m / e=q:=⟨_,rfl⟩
  obtain ⟨t,ht⟩:∃ t,m % e=t:=⟨_,rfl⟩
  have fp:Fits p:=hp ▸ dig_fits_div fn d
  have fq:Fits q:=hq ▸ dig_fits_div fm e
  have fr:Fits r:=hr ▸ dig_fits_mod fd (by have:=hd.out;omega)
  have ft:Fits t:=ht ▸ dig_fits_mod fe (by have:=hee.out;omega)
  have CR:=Lib.hid (cmp_round (n:=n) (m:=m) hd.out hee.out)
  rw [hp,hr,hq,ht] at CR
  have M:=cellZ_eq (z:=d) (Row.cells2 r1).2.2.1
  have P1:=Lib.hid hp
  have P2:=Lib.hid hr
  have P3:=Lib.hid hq
  have P4:=Lib.hid ht
  have M':=Lib.hid M
  clear hp hr hq ht M
  obtain ⟨s1,a1,a2,a3,a4⟩:=Row.cells2 r1
  obtain ⟨s2,b1,b2,b3,b4⟩:=Row.cells2 r2
  have in_:=is_S n
  have id_:=is_S d
  have im:=is_S m
  have ie:=is_S e
  have ip:=is_S p
  have iq:=is_S q
  go_wp2_with fail
  refine (divS in_ id_ P1 P2 fn fd (Lib.hid (by have:=hd.out;omega)) _ (he.below hB)).mono ?_
  rintro e W1 ⟨rfl,h1⟩
  replace hB:=hB.trans (h1.mono hB.size)
  replace r1:=r1.below h1
  replace r2:=r2.below h1
  clear h1
  obtain ⟨s1,a1,a2,a3,a4⟩:=Row.cells2 r1
  obtain ⟨s2,b1,b2,b3,b4⟩:=Row.cells2 r2
  go_wp2_with fail
  refine (divS im ie P3 P4 fm fe (Lib.hid (by have:=hee.out;omega)) _ (he.below hB)).mono ?_
  rintro e W2 ⟨rfl,h1⟩
  replace hB:=hB.trans (h1.mono hB.size)
  replace r1:=r1.below h1
  replace r2:=r2.below h1
  clear h1
  obtain ⟨s1,a1,a2,a3,a4⟩:=Row.cells2 r1
  obtain ⟨s2,b1,b2,b3,b4⟩:=Row.cells2 r2
  by_cases c0:p=q
  ·have C0:=Lib.hid c0
   have Z:Hid (cmpZ p q=0):=Lib.hid (cmpZ_eq c0)
   clear c0
   go_wp2_with fail
   refine (cmpS ip iq Z fp fq _).mono ?_
   rintro e W3 ⟨rfl,h1⟩
   replace hB:=hB.trans (h1.mono hB.size)
   replace r1:=r1.below h1
   replace r2:=r2.below h1
   clear h1
   obtain ⟨s1,a1,a2,a3,a4⟩:=Row.cells2 r1
   obtain ⟨s2,b1,b2,b3,b4⟩:=Row.cells2 r2
   by_cases r0:r=0
   ·have z1:=S_eq0 r0
    by_cases t0:t=0
    ·have z2:=S_eq0 t0
     have G:Hid (g=0):=Lib.hid (by rw [← V.out,CR.out.2.1 C0.out r0 t0,Int.mul_zero])
     clear r0 t0
     generalize S r=sr at *
     generalize S t=st at *
     go_wp2
     simp only [Exit.jump]
     go_ret
     exact ⟨by rw [G.out];rfl,hB⟩
    ·have z2:=S_ne0 t0
     have G:Hid (g = -s):=Lib.hid (by rw [← V.out,CR.out.2.2.1 C0.out r0 t0];omega)
     clear r0 t0
     generalize S r=sr at *
     generalize S t=st at *
     go_wp2
     simp only [Exit.jump]
     go_ret
     exact ⟨by rw [G.out];rfl,hB⟩
   ·have z1:=S_ne0 r0
    by_cases t0:t=0
    ·have z2:=S_eq0 t0
     have G:Hid (g=s):=Lib.hid (by rw [← V.out,CR.out.2.2.2.1 C0.out r0 t0];omega)
     clear r0 t0
     generalize S r=sr at *
     generalize S t=st at *
     go_wp2
     simp only [Exit.jump]
     go_ret
     exact ⟨by rw [G.out];rfl,hB⟩
    ·have z2:=S_ne0 t0
     have L:=Lib.hid (CR.out.2.2.2.2 C0.out r0 t0)
     clear r0 t0
     obtain ⟨sr,hsr⟩:∃ x,x=S r:=⟨_,rfl⟩
     obtain ⟨st,hst⟩:∃ x,x=S t:=⟨_,rfl⟩
     rw [← hsr] at z1 ⊢
     rw [← hst] at z2 ⊢
     have HR:=Lib.hid hsr
     have HT:=Lib.hid hst
     clear hsr hst
     go_wp2
     go_region
     go_wp2
     go_step3
     obtain rfl:=HR.out
     obtain rfl:=HT.out
     obtain ⟨l1,l2,l3,l4,l5⟩:=L.out
     have R1:Row ((((W3.setCell ⟨w.heap.size,0,none⟩ (.string (S d))).setCell ⟨w.heap.size,1,none⟩ (.string (S r))).setCell ⟨w.heap.size+1,0,none⟩ (.string (S e))).setCell ⟨w.heap.size+1,1,none⟩ (.string (S t))).drew w.heap.size (.cells #[.string (S d),.string (S r)] 23):=Row.drew (Row.set_other (Row.set_other (Row.set2 r1) _ (by omega)) _ (by omega))
     have R2:Row ((((W3.setCell ⟨w.heap.size,0,none⟩ (.string (S d))).setCell ⟨w.heap.size,1,none⟩ (.string (S r))).setCell ⟨w.heap.size+1,0,none⟩ (.string (S e))).setCell ⟨w.heap.size+1,1,none⟩ (.string (S t))).drew (w.heap.size+1) (.cells #[.string (S e),.string (S t)] 23):=Row.drew (Row.set2 (Row.set_other (Row.set_other r2 _ (by omega)) _ (by omega)))
     have NI:CmpInv g (-s) d r e t:=⟨l1,l3,by rcases hs.out with h | h <;> omega,by rw [← V.out,l5];simp [Int.neg_mul,Int.mul_neg],fd,fr,fe,ft⟩
     have HBB:Below w.heap.size w ((((W3.setCell ⟨w.heap.size,0,none⟩ (.string (S d))).setCell ⟨w.heap.size,1,none⟩ (.string (S r))).setCell ⟨w.heap.size+1,0,none⟩ (.string (S e))).setCell ⟨w.heap.size+1,1,none⟩ (.string (S t))).drew:=C1_hB
     refine ⟨rfl,⟨-s,d,r,e,t,_,_,_,_,_,_,_,_,_,_,_,_,_,_,_,_,_,_,_,_,_,_,_,_,_,_,_,_,_,_,_,_,_,_,_,_,_,_,_,_,_,_,_,_,_,_,_,_,_,_,_,_,_,_,_,_,_,_,_,_,_,_,_,_,_,_,_,_,rfl,NI,R1,R2,HBB⟩,?_⟩
     rw [cellZ_eq (z:=r) (Row.cells2 R1).2.2.1,M'.out]
     omega
  ·obtain ⟨c,hc⟩:∃ c,cmpZ p q=c:=⟨_,rfl⟩
   have Z:=Lib.hid hc
   have n0:(c != 0)=true:=by
    rw [← hc];unfold cmpZ;split <;> (try split) <;> first | rfl | omega
   obtain ⟨v,hv⟩:∃ v,s * c=v:=⟨_,rfl⟩
   have G:Hid (g=v):=Lib.hid (by rw [← V.out,CR.out.1 c0,← hv,← hc];rfl)
   have vl : -1≤v∧v≤1:=by
    rw [← hv,← hc];unfold cmpZ;rcases hs.out with h | h <;> rw [h] <;> split <;> (try split) <;> omega
   obtain ⟨vl1,vl2⟩:=vl
   clear c0 hc
   go_wp2_with fail
   refine (cmpS ip iq Z fp fq _).mono ?_
   rintro e W3 ⟨rfl,h1⟩
   replace hB:=hB.trans (h1.mono hB.size)
   replace r1:=r1.below h1
   replace r2:=r2.below h1
   clear h1
   obtain ⟨s1,a1,a2,a3,a4⟩:=Row.cells2 r1
   obtain ⟨s2,b1,b2,b3,b4⟩:=Row.cells2 r2
   generalize S r=sr at *
   generalize S t=st at *
   go_wp2
   simp only [Exit.jump]
   go_ret
   exact ⟨by rw [G.out];rfl,hB⟩
 ·go_wp2_with fail
  generalize ((w.alloc (.cells #[.string (S a.num),.string (S (a.den:Int))] 23)).alloc (.cells #[.string (S b.num),.string (S (b.den:Int))] 23))=W0 at *
  refine (h1 _ (he.below hB)).mono ?_
  rintro e W1 ⟨rfl,h1⟩
  replace hB:=hB.trans (h1.mono hB.size)
  replace r1:=r1.below h1
  replace r2:=r2.below h1
  clear h1
  obtain ⟨s1,a1,a2,a3,a4⟩:=Row.cells2 r1
  obtain ⟨s2,b1,b2,b3,b4⟩:=Row.cells2 r2
  go_wp2_with fail
  refine (h2 _ (he.below hB)).mono ?_
  rintro e W2 ⟨rfl,h1⟩
  replace hB:=hB.trans (h1.mono hB.size)
  replace r1:=r1.below h1
  replace r2:=r2.below h1
  clear h1
  obtain ⟨s1,a1,a2,a3,a4⟩:=Row.cells2 r1
  obtain ⟨s2,b1,b2,b3,b4⟩:=Row.cells2 r2
  go_wp2_with fail
  go_step3
  rename_i hK
  refine hK _ _ (hp _ _ ?_)
  exact ⟨1,a.num,a.den,b.num,b.den,_,_,_,_,_,_,_,_,_,_,_,_,_,_,_,_,_,_,_,_,_,_,_,_,_,_,_,_,_,_,_,_,_,_,_,_,_,_,_,_,_,_,_,_,_,_,_,_,_,_,_,_,_,_,_,_,_,_,_,_,_,_,_,_,_,_,_,_,rfl,I0,r1,r2,hB⟩
end Go.Proofs.YtnokpldomlmamaaGreatDoor
namespace Go.Proofs.YtnokpldomlmamaaGreatDoor
open Go Go.RowKit Go.Lib Go.Shelf
theorem RF1 {X:World} {b:Nat} {u0:Value} {T:TypeId} (h:Row X b (.cells #[u0] T)):b<X.heap.size∧X.cell? ⟨b,0,none⟩=some u0:=⟨h.1,Row.cell_at h 0 rfl⟩
theorem RF2 {X:World} {b:Nat} {u0 u1:Value} {T:TypeId} (h:Row X b (.cells #[u0,u1] T)):b<X.heap.size∧X.cell? ⟨b,0,none⟩=some u0∧X.cell? ⟨b,1,none⟩=some u1:=⟨h.1,Row.cell_at h 0 rfl,Row.cell_at h 1 rfl⟩
theorem RF3 {X:World} {b:Nat} {u0 u1 u2:Value} {T:TypeId} (h:Row X b (.cells #[u0,u1,u2] T)):b<X.heap.size∧X.cell? ⟨b,0,none⟩=some u0∧X.cell? ⟨b,1,none⟩=some u1∧X.cell? ⟨b,2,none⟩=some u2:=⟨h.1,Row.cell_at h 0 rfl,Row.cell_at h 1 rfl,Row.cell_at h 2 rfl⟩
theorem RF4 {X:World} {b:Nat} {u0 u1 u2 u3:Value} {T:TypeId} (h:Row X b (.cells #[u0,u1,u2,u3] T)):b<X.heap.size∧X.cell? ⟨b,0,none⟩=some u0∧X.cell? ⟨b,1,none⟩=some u1∧X.cell? ⟨b,2,none⟩=some u2∧X.cell? ⟨b,3,none⟩=some u3:=⟨h.1,Row.cell_at h 0 rfl,Row.cell_at h 1 rfl,Row.cell_at h 2 rfl,Row.cell_at h 3 rfl⟩
theorem RF5 {X:World} {b:Nat} {u0 u1 u2 u3 u4:Value} {T:TypeId} (h:Row X b (.cells #[u0,u1,u2,u3,u4] T)):b<X.heap.size∧X.cell? ⟨b,0,none⟩=some u0∧X.cell? ⟨b,1,none⟩=some u1∧X.cell? ⟨b,2,none⟩=some u2∧X.cell? ⟨b,3,none⟩=some u3∧X.cell? ⟨b,4,none⟩=some u4:=⟨h.1,Row.cell_at h 0 rfl,Row.cell_at h 1 rfl,Row.cell_at h 2 rfl,Row.cell_at h 3 rfl,Row.cell_at h 4 rfl⟩
theorem RFz1 {X:World} {b:Nat} {u0:Value} {T:TypeId} (h:Row X b (.cells #[u0] T)):b<X.heap.size∧X.cell? ⟨b,0,none⟩=some u0∧X.frozen? ⟨b,0,none⟩=false:=⟨h.1,Row.cell_at h 0 rfl,frozen_of_row _ _ 0 _ _ h.2⟩
theorem RFz2 {X:World} {b:Nat} {u0 u1:Value} {T:TypeId} (h:Row X b (.cells #[u0,u1] T)):b<X.heap.size∧X.cell? ⟨b,0,none⟩=some u0∧X.cell? ⟨b,1,none⟩=some u1∧X.frozen? ⟨b,0,none⟩=false∧X.frozen? ⟨b,1,none⟩=false:=⟨h.1,Row.cell_at h 0 rfl,Row.cell_at h 1 rfl,frozen_of_row _ _ 0 _ _ h.2,frozen_of_row _ _ 1 _ _ h.2⟩
theorem RFz3 {X:World} {b:Nat} {u0 u1 u2:Value} {T:TypeId} (h:Row X b (.cells #[u0,u1,u2] T)):b<X.heap.size∧X.cell? ⟨b,0,none⟩=some u0∧X.cell? ⟨b,1,none⟩=some u1∧X.cell? ⟨b,2,none⟩=some u2∧X.frozen? ⟨b,0,none⟩=false∧X.frozen? ⟨b,1,none⟩=false∧X.frozen? ⟨b,2,none⟩=false:=⟨h.1,Row.cell_at h 0 rfl,Row.cell_at h 1 rfl,Row.cell_at h 2 rfl,frozen_of_row _ _ 0 _ _ h.2,frozen_of_row _ _ 1 _ _ h.2,frozen_of_row _ _ 2 _ _ h.2⟩
theorem RFz4 {X:World} {b:Nat} {u0 u1 u2 u3:Value} {T:TypeId} (h:Row X b (.cells #[u0,u1,u2,u3] T)):b<X.heap.size∧X.cell? ⟨b,0,none⟩=some u0∧X.cell? ⟨b,1,none⟩=some u1∧X.cell? ⟨b,2,none⟩=some u2∧X.cell? ⟨b,3,none⟩=some u3∧X.frozen? ⟨b,0,none⟩=false∧X.frozen? ⟨b,1,none⟩=false∧X.frozen? ⟨b,2,none⟩=false∧X.frozen? ⟨b,3,none⟩=false:=⟨h.1,Row.cell_at h 0 rfl,Row.cell_at h 1 rfl,Row.cell_at h 2 rfl,Row.cell_at h 3 rfl,frozen_of_row _ _ 0 _ _ h.2,frozen_of_row _ _ 1 _ _ h.2,frozen_of_row _ _ 2 _ _ h.2,frozen_of_row _ _ 3 _ _ h.2⟩
theorem RFz5 {X:World} {b:Nat} {u0 u1 u2 u3 u4:Value} {T:TypeId} (h:Row X b (.cells #[u0,u1,u2,u3,u4] T)):b<X.heap.size∧X.cell? ⟨b,0,none⟩=some u0∧X.cell? ⟨b,1,none⟩=some u1∧X.cell? ⟨b,2,none⟩=some u2∧X.cell? ⟨b,3,none⟩=some u3∧X.cell? ⟨b,4,none⟩=some u4∧X.frozen? ⟨b,0,none⟩=false∧X.frozen? ⟨b,1,none⟩=false∧X.frozen? ⟨b,2,none⟩=false∧X.frozen? ⟨b,3,none⟩=false∧X.frozen? ⟨b,4,none⟩=false:=⟨h.1,Row.cell_at h 0 rfl,Row.cell_at h 1 rfl,Row.cell_at h 2 rfl,Row.cell_at h 3 rfl,Row.cell_at h 4 rfl,frozen_of_row _ _ 0 _ _ h.2,frozen_of_row _ _ 1 _ _ h.2,frozen_of_row _ _ 2 _ _ h.2,frozen_of_row _ _ 3 _ _ h.2,frozen_of_row _ _ 4 _ _ h.2⟩
theorem St0 {A X W:World} (hB:Below A.heap.size A X) (h1:Below X.heap.size X W):Below A.heap.size A W:=hB.trans (h1.mono hB.size)
theorem St1 {A X W:World} {b0:Nat} {o0:Obj} (hB:Below A.heap.size A X) (h1:Below X.heap.size X W) (r0:Row X b0 o0):Below A.heap.size A W∧Row W b0 o0:=⟨hB.trans (h1.mono hB.size),Row.below r0 h1⟩
theorem St2 {A X W:World} {b0 b1:Nat} {o0 o1:Obj} (hB:Below A.heap.size A X) (h1:Below X.heap.size X W) (r0:Row X b0 o0) (r1:Row X b1 o1):Below A.heap.size A W∧Row W b0 o0∧Row W b1 o1:=⟨hB.trans (h1.mono hB.size),Row.below r0 h1,Row.below r1 h1⟩
theorem St3 {A X W:World} {b0 b1 b2:Nat} {o0 o1 o2:Obj} (hB:Below A.heap.size A X) (h1:Below X.heap.size X W) (r0:Row X b0 o0) (r1:Row X b1 o1) (r2:Row X b2 o2):Below A.heap.size A W∧Row W b0 o0∧Row W b1 o1∧Row W b2 o2:=⟨hB.trans (h1.mono hB.size),Row.below r0 h1,Row.below r1 h1,Row.below r2 h1⟩
theorem St4 {A X W:World} {b0 b1 b2 b3:Nat} {o0 o1 o2 o3:Obj} (hB:Below A.heap.size A X) (h1:Below X.heap.size X W) (r0:Row X b0 o0) (r1:Row X b1 o1) (r2:Row X b2 o2) (r3:Row X b3 o3):Below A.heap.size A W∧Row W b0 o0∧Row W b1 o1∧Row W b2 o2∧Row W b3 o3:=⟨hB.trans (h1.mono hB.size),Row.below r0 h1,Row.below r1 h1,Row.below r2 h1,Row.below r3 h1⟩
theorem St5 {A X W:World} {b0 b1 b2 b3 b4:Nat} {o0 o1 o2 o3 o4:Obj} (hB:Below A.heap.size A X) (h1:Below X.heap.size X W) (r0:Row X b0 o0) (r1:Row X b1 o1) (r2:Row X b2 o2) (r3:Row X b3 o3) (r4:Row X b4 o4):Below A.heap.size A W∧Row W b0 o0∧Row W b1 o1∧Row W b2 o2∧Row W b3 o3∧Row W b4 o4:=⟨hB.trans (h1.mono hB.size),Row.below r0 h1,Row.below r1 h1,Row.below r2 h1,Row.below r3 h1,Row.below r4 h1⟩
theorem St6 {A X W:World} {b0 b1 b2 b3 b4 b5:Nat} {o0 o1 o2 o3 o4 o5:Obj} (hB:Below A.heap.size A X) (h1:Below X.heap.size X W) (r0:Row X b0 o0) (r1:Row X b1 o1) (r2:Row X b2 o2) (r3:Row X b3 o3) (r4:Row X b4 o4) (r5:Row X b5 o5):Below A.heap.size A W∧Row W b0 o0∧Row W b1 o1∧Row W b2 o2∧Row W b3 o3∧Row W b4 o4∧Row W b5 o5:=⟨hB.trans (h1.mono hB.size),Row.below r0 h1,Row.below r1 h1,Row.below r2 h1,Row.below r3 h1,Row.below r4 h1,Row.below r5 h1⟩
theorem St7 {A X W:World} {b0 b1 b2 b3 b4 b5 b6:Nat} {o0 o1 o2 o3 o4 o5 o6:Obj} (hB:Below A.heap.size A X) (h1:Below X.heap.size X W) (r0:Row X b0 o0) (r1:Row X b1 o1) (r2:Row X b2 o2) (r3:Row X b3 o3) (r4:Row X b4 o4) (r5:Row X b5 o5) (r6:Row X b6 o6):Below A.heap.size A W∧Row W b0 o0∧Row W b1 o1∧Row W b2 o2∧Row W b3 o3∧Row W b4 o4∧Row W b5 o5∧Row W b6 o6:=⟨hB.trans (h1.mono hB.size),Row.below r0 h1,Row.below r1 h1,Row.below r2 h1,Row.below r3 h1,Row.below r4 h1,Row.below r5 h1,Row.below r6 h1⟩
theorem St8 {A X W:World} {b0 b1 b2 b3 b4 b5 b6 b7:Nat} {o0 o1 o2 o3 o4 o5 o6 o7:Obj} (hB:Below A.heap.size A X) (h1:Below X.heap.size X W) (r0:Row X b0 o0) (r1:Row X b1 o1) (r2:Row X b2 o2) (r3:Row X b3 o3) (r4:Row X b4 o4) (r5:Row X b5 o5) (r6:Row X b6 o6) (r7:Row X b7 o7):Below A.heap.size A W∧Row W b0 o0∧Row W b1 o1∧Row W b2 o2∧Row W b3 o3∧Row W b4 o4∧Row W b5 o5∧Row W b6 o6∧Row W b7 o7:=⟨hB.trans (h1.mono hB.size),Row.below r0 h1,Row.below r1 h1,Row.below r2 h1,Row.below r3 h1,Row.below r4 h1,Row.below r5 h1,Row.below r6 h1,Row.below r7 h1⟩
end Go.Proofs.YtnokpldomlmamaaGreatDoor
namespace Go.Proofs.YtnokpldomlmamaaGreatDoor
open Go Go.RowKit Go.Lib Go.Shelf
inductive QItem where
 | val (v:Value)
 | say (S:QSay)
def QItem.sp:QItem→QSay
 | .val v=>fun u _=>u=v
 | .say S=>S
def itemSp (l:List QItem) (i:Nat):QSay:=match l[i]? with | some q=>q.sp | none=>fun _ _=>True
def qMono (S:QSay):Prop:=∀ v W W',S v W→Below W.heap.size W W'→S v W'
def itemsMono:List QItem→Prop
 | []=>True
 | .val _ :: l=>itemsMono l
 | .say S :: l=>qMono S∧itemsMono l
theorem itemsMono.get:∀ {l:List QItem},itemsMono l→∀ i v W W',itemSp l i v W→Below W.heap.size W W'→itemSp l i v W'
 | [],_,i,v,W,W',h,_=>by simp [itemSp]
 | .val u :: l,hm,0,v,W,W',h,_=>h
 | .say S :: l,hm,0,v,W,W',h,hB=>hm.1 v W W' h hB
 | .val u :: l,hm,i+1,v,W,W',h,hB=>itemsMono.get (l:=l) hm i v W W' h hB
 | .say S :: l,hm,i+1,v,W,W',h,hB=>itemsMono.get (l:=l) hm.2 i v W W' h hB
def itemOb (P:Program) (ops:Array Oper) (fl:List Oper) (items:List QItem) (tmps:Array Value) (w:World) (o:Oper) (q:QItem):Prop :=
 ∀ (ρ:Operand→Value) (W:World),Below w.heap.size w W→(∀ v,ρ (.const v)=v)→(∀ g,ρ (.global g) = .pointer (some ⟨g,0,none⟩))→(∀ f,ρ (.func f) = .func (.func f) #[] #[]) →
  (∀ t,foreign fl t=true→ρ (.tmp t)=tmps.getD t undef)→depsSay ops (itemSp items) ρ W o.after.toList →
  if Region.wanted o (yieldedBy ops ρ) then quietly P q.sp W ((execOp ρ o).run P W) else q.sp undef W
def allItems (P:Program) (ops:Array Oper) (fl:List Oper) (items:List QItem) (tmps:Array Value) (w:World):List Oper→List QItem→Prop
 | o :: l,q :: qs=>itemOb P ops fl items tmps w o q∧allItems P ops fl items tmps w l qs
 | [],_=>True
 | _ :: _,[]=>False
theorem allItems.cons {P:Program} {ops:Array Oper} {fl:List Oper} {items:List QItem} {tmps:Array Value} {w:World} {o:Oper} {l:List Oper} {q:QItem} {qs:List QItem} (h:itemOb P ops fl items tmps w o q) (h':allItems P ops fl items tmps w l qs):allItems P ops fl items tmps w (o :: l) (q :: qs):=⟨h,h'⟩
theorem allItems.quiet {P:Program} {ops:Array Oper} {fl:List Oper} {items:List QItem} {tmps:Array Value} {w:World}:∀ (l:List Oper) (qs:List QItem) (k:Nat),allItems P ops fl items tmps w l qs→(∀ i,qs[i]? = items[k+i]?)→allQuiet P ops fl (itemSp items) tmps w k l
 | [],_,_,_,_=>trivial
 | o :: l,[],_,h,_=>h.elim
 | o :: l,q :: qs,k,h,hq=>by
  have e:itemSp items k=q.sp:=by
   have:=hq 0
   rw [Nat.add_zero] at this
   unfold itemSp;rw [← this];rfl
  refine ⟨?_,allItems.quiet l qs (k+1) h.2 (fun i=>by have:=hq (i+1);simpa [Nat.add_assoc,Nat.add_comm 1 i] using this)⟩
  intro ρ W h1 h2 h3 h4 h5 h6
  rw [e]
  exact h.1 ρ W h1 h2 h3 h4 h5 h6
def setItems (W:World) (K:Array Value→Prop):List Oper→List QItem→Array Value→Prop
 | o :: l,.val v :: qs,T=>setItems W K l qs (match o.dst with | some d=>T.setIfInBounds d v | none=>T)
 | o :: l,.say S :: qs,T=>match o.dst with | some d=>∀ v,S v W→setItems W K l qs (T.setIfInBounds d v) | none=>setItems W K l qs T
 | _,_,T=>K T
theorem setItems_done {items:List QItem} {K:Array Value→World→Prop} {W:World}:∀ (l:List Oper) (qs:List QItem) (k:Nat) (T:Array Value),l.length=qs.length→(∀ i,qs[i]? = items[k+i]?)→setItems W (fun T=>K T W) l qs T→quietDone (itemSp items) K W k l T
 | [],[],_,_,_,_,h=>h
 | [],_ :: _,_,_,hl,_,_=>by simp at hl
 | _ :: _,[],_,_,hl,_,_=>by simp at hl
 | o :: l,q :: qs,k,T,hl,hq,h=>by
  have e:itemSp items k=q.sp:=by
   have:=hq 0
   rw [Nat.add_zero] at this
   unfold itemSp;rw [← this];rfl
  have ih:∀ T,setItems W (fun T=>K T W) l qs T→quietDone (itemSp items) K W (k+1) l T:=fun T h=>setItems_done l qs (k+1) T (by simpa using hl) (fun i=>by have:=hq (i+1);simpa [Nat.add_assoc,Nat.add_comm 1 i] using this) h
  unfold quietDone
  rw [e]
  cases q with
  | val v =>
   cases hd:o.dst with
   | none=>simp only [setItems,hd] at h;exact ih T h
   | some t=>simp only [setItems,hd] at h;intro u hu;have hu:u=v:=hu;subst hu;exact ih _ h
  | say S =>
   cases hd:o.dst with
   | none=>simp only [setItems,hd] at h;exact ih T h
   | some t=>simp only [setItems,hd] at h;intro u hu;exact ih _ (h u hu)
/-- **A region that draws its order; its first n operations are said of by items; the others wait, each, for all ahead of them.** -/
theorem wp_region_items {P:Program} {ops:Array Oper} {Q:Exit→Act→World→Prop} {id:Nat} {tmps:Array Value} {ds:List Deferred} {w:World} (n:Nat) (items:List QItem) (hm:P.follows .mixedOrders=true)
  (htail:(tailFit ops n && quietFit ops tmps.size && decide (n≤ops.size) && decide ((ops.toList.take n).length=items.length))=true) (hmono:itemsMono items) (hall:allItems P ops (ops.toList.take n) items tmps w (ops.toList.take n) items)
  (hdone:∀ W,Below w.heap.size w W→setItems W (fun T=>wpList P ops Q (ops.toList.drop n) ⟨T,ds⟩ W) (ops.toList.take n) items tmps):(Code.region id ops true).wp P Q ⟨tmps,ds⟩ w:=by
 simp only [Bool.and_eq_true,decide_eq_true_eq] at htail
 exact wp_region_tail n (itemSp items) hm hmono.get htail.1.2 htail.1.1.1 htail.1.1.2 (allItems.quiet _ _ 0 hall (fun i=>by simp)) fun W hW=>setItems_done _ _ 0 _ htail.2 (fun i=>by simp) (hdone W hW)
/-- A new block. -/
def fresh (n:Nat) (o:Obj):QSay:=fun v W=>∃ b,v = .pointer (some ⟨b,0,none⟩)∧n≤b∧Row W b o
theorem fresh_mono (n:Nat) (o:Obj):qMono (fresh n o):=fun v W W' ⟨b,e,hb,hr⟩ hB=>⟨b,e,hb,Row.below hr hB⟩
theorem fresh_new {w X:World} (h:Below w.heap.size w X) (o:Obj):fresh w.heap.size o (.pointer (some ⟨X.heap.size,0,none⟩)) (X.alloc o)∧Below X.heap.size X (X.alloc o):=⟨⟨X.heap.size,rfl,h.size,row_new _ _⟩,(Below.refl _ _).alloc (Nat.le_refl _) _⟩
/-- An operation that reads no memory. -/
theorem qi0 {p:Prop} (h:p:=by intro ρ X qX qc qg qf qt qd;simp [depsSay,itemSp,QItem.sp,Region.binds] at qd;simp [Region.wanted,yieldedBy,quietly,QItem.sp,execOp,go_sem,foreign,qc,qd,qt,Below.refl]):p:=h
/-- The same, with a fact. -/
theorem qif {p q:Prop} (y:q) (h:q→p:=by intro y ρ X qX qc qg qf qt qd;simp [depsSay,itemSp,QItem.sp,Region.binds] at qd;simp [Region.wanted,yieldedBy,quietly,QItem.sp,execOp,go_sem,foreign,qc,qd,qt,Below.refl,y]):p:=h y
/-- A load: what the block's cells hold. -/
theorem qi1 {p:Prop} {q:World→Prop} {w:World} (y:∀ X,Below w.heap.size w X→q X)
  (h:(∀ X,Below w.heap.size w X→q X)→p:=by intro y ρ X qX qc qg qf qt qd;simp [depsSay,itemSp,QItem.sp,Region.binds] at qd;have y':=y X qX;clear y;simp [Region.wanted,yieldedBy,quietly,QItem.sp,execOp,go_sem,foreign,qc,qd,qt,Below.refl,y']):p:=h y
/-- A call. -/
theorem qi2 {p:Prop} {P:Program} {F:FuncId} {args:Array Value} {R:World→Ending→World→Prop} {w:World} (y:∀ X,Below w.heap.size w X→Calls P F args X (R X))
  (h:(∀ X,Below w.heap.size w X→Calls P F args X (R X))→p:=by intro y ρ X qX qc qg qf qt qd;simp [depsSay,itemSp,QItem.sp,Region.binds] at qd;simp [Region.wanted,yieldedBy,quietly,QItem.sp,execOp,go_sem,foreign,qc,qd,qt,qf];refine ⟨Below.refl _ _,(y X qX).mono ?_⟩;rintro e Y ⟨rfl,h1⟩;exact ⟨_,rfl,rfl,h1⟩):p:=h y
/-- A call whose result is said of. -/
theorem qi3 {p:Prop} {P:Program} {F:FuncId} {args:Array Value} {R:World→Ending→World→Prop} {w:World} (y:∀ X,Below w.heap.size w X→Calls P F args X (R X))
  (h:(∀ X,Below w.heap.size w X→Calls P F args X (R X))→p:=by intro y ρ X qX qc qg qf qt qd;simp [depsSay,itemSp,QItem.sp,Region.binds] at qd;simp [Region.wanted,yieldedBy,quietly,QItem.sp,execOp,go_sem,foreign,qc,qd,qt,qf];refine ⟨Below.refl _ _,(y X qX).mono ?_⟩;rintro e Y ⟨v,rfl,hs,h1⟩;exact ⟨_,rfl,hs,h1⟩):p:=h y
/-- A store of what the cells hold already. -/
theorem qvst {p:Prop} {w:World} {b:Nat} {v0 v1:Value} {t:TypeId} (y:∀ X,Below w.heap.size w X→Row X b (.cells #[v0,v1] t))
  (h:(∀ X,Below w.heap.size w X→Row X b (.cells #[v0,v1] t))→p:=by intro y ρ X qX qc qg qf qt qd;simp [depsAre,Region.binds] at qd;obtain ⟨_,y1,y2,y3,y4⟩:=Row.cells2 (y X qX);obtain ⟨y5,y6⟩:=setCell_same2 (y X qX);clear y;simp [Region.wanted,yieldedBy,quietly,execOp,go_sem,foreign,qc,qd,qt,Below.refl,y1,y2,y3,y4,y5,y6]):p:=h y
/-- A new block's place. -/
theorem qia {p:Prop} (h:p:=by intro ρ X qX qc qg qf qt qd;simp [Region.wanted,yieldedBy,quietly,QItem.sp,execOp,go_sem,foreign];exact fresh_new qX _):p:=h
end Go.Proofs.YtnokpldomlmamaaGreatDoor
