/-
 What the base lacks.
-/
import Derived.Carry
import Derived.Deep.DeepHandedRow
import Derived.Deep.RegionHeld3
import Derived.Lay
import Derived.Lib.LaidTab
import Derived.Lib.LaidU8
import Derived.Lib.SmallJoins
import Derived.MakeChecks
import Derived.OpenShut
import Derived.ProofKit
import Derived.SevenTiedAt
import Derived.Stop.LaidErr
import Derived.Test.YtjpkfjmmmmfeeaaGreatDoorCards
import Derived.Test.YtjpkfjmmmmfeeaaGreatDoorTie
import Derived.WideKeyArr2
import Derived.Test.YtjpkfjmmmmfeeaaGreatDoorKAAt
import Derived.Test.YtjpkfjmmmmfeeaaGreatDoorKAComb
import Derived.Test.YtjpkfjmmmmfeeaaGreatDoorKACompute
import Derived.Test.YtjpkfjmmmmfeeaaGreatDoorKACov
import Derived.Test.YtjpkfjmmmmfeeaaGreatDoorKAExample
import Derived.Test.YtjpkfjmmmmfeeaaGreatDoorKAFits
import Derived.Test.YtjpkfjmmmmfeeaaGreatDoorKAInverse
import Derived.Test.YtjpkfjmmmmfeeaaGreatDoorKALin
import Derived.Test.YtjpkfjmmmmfeeaaGreatDoorKALine
import Derived.Test.YtjpkfjmmmmfeeaaGreatDoorKALinear
import Derived.Test.YtjpkfjmmmmfeeaaGreatDoorKAMade
import Derived.Test.YtjpkfjmmmmfeeaaGreatDoorKAMadeW
import Derived.Test.YtjpkfjmmmmfeeaaGreatDoorKAMul
import Derived.Test.YtjpkfjmmmmfeeaaGreatDoorKANum
import Derived.Test.YtjpkfjmmmmfeeaaGreatDoorKARange
import Derived.Test.YtjpkfjmmmmfeeaaGreatDoorKASame
import Derived.Test.YtjpkfjmmmmfeeaaGreatDoorKAValid
import Derived.Test.YtjpkfjmmmmfeeaaGreatDoorKBuild
import Derived.Test.YtjpkfjmmmmfeeaaGreatDoorKCmp
import Derived.Test.YtjpkfjmmmmfeeaaGreatDoorKDPlain2
import Derived.Test.YtjpkfjmmmmfeeaaGreatDoorKEHull
import Derived.Test.YtjpkfjmmmmfeeaaGreatDoorKEOps
import Derived.Test.YtjpkfjmmmmfeeaaGreatDoorKERound
import Derived.Test.YtjpkfjmmmmfeeaaGreatDoorKESqrt
import Derived.Test.YtjpkfjmmmmfeeaaGreatDoorKEValid
import Derived.Test.YtjpkfjmmmmfeeaaGreatDoorKLaw1
import Derived.Test.YtjpkfjmmmmfeeaaGreatDoorKOver
import Derived.Test.YtjpkfjmmmmfeeaaGreatDoorKPlain3
import Derived.Test.YtjpkfjmmmmfeeaaGreatDoorKQCheck1
import Derived.Test.YtjpkfjmmmmfeeaaGreatDoorKQCmp
import Derived.Test.YtjpkfjmmmmfeeaaGreatDoorKQPlain6
import Derived.Test.YtjpkfjmmmmfeeaaGreatDoorKQPlain7
import Derived.Test.YtjpkfjmmmmfeeaaGreatDoorKQSum
import Derived.Test.YtjpkfjmmmmfeeaaGreatDoorKQuiet
import Derived.Test.YtjpkfjmmmmfeeaaGreatDoorKRQ
import Derived.Test.YtjpkfjmmmmfeeaaGreatDoorKRefO
import Derived.Test.YtjpkfjmmmmfeeaaGreatDoorKRefQ
import Derived.Test.YtjpkfjmmmmfeeaaGreatDoorKRound
import Derived.Test.YtjpkfjmmmmfeeaaGreatDoorKSane8
import Derived.Test.YtjpkfjmmmmfeeaaGreatDoorKSig
import Derived.Test.YtjpkfjmmmmfeeaaGreatDoorKStr3
import Derived.Test.YtjpkfjmmmmfeeaaGreatDoorKStr6
import Derived.Test.YtjpkfjmmmmfeeaaGreatDoorKTail2
import Derived.Test.YtjpkfjmmmmfeeaaGreatDoorKTail3
set_option linter.unusedSimpArgs false
set_option linter.unusedVariables false
set_option maxRecDepth 100000
set_option maxHeartbeats 16000000
namespace Go.Proofs.YtjpkfjmmmmfeeaaGreatDoor
open Go Go.RowKit Go.Lib Go.Shelf
theorem qmul {j k:Nat} {a b:Rat} (ha:QDig j a) (hb:QDig k b) (hjk:j+k≤200) (w:World) (he:Env w) :
  Calls Tryz.prog 18 #[Q a,Q b] w (QOk (a * b) w):=qmulF (MF.of ha hb hjk) w he
end Go.Proofs.YtjpkfjmmmmfeeaaGreatDoor
namespace Go.Proofs.YtjpkfjmmmmfeeaaGreatDoor
open Go Go.RowKit Go.Lib Go.Shelf
theorem qadd {j k:Nat} {a b:Rat} (ha:QDig j a) (hb:QDig k b) (hjk:j+k+1≤200) (w:World) (he:Env w) :
  Calls Tryz.prog 20 #[Q a,Q b] w (QOk (a+b) w):=qaddF (AF.of ha hb hjk) w he
end Go.Proofs.YtjpkfjmmmmfeeaaGreatDoor
namespace Go.Proofs.YtjpkfjmmmmfeeaaGreatDoor
open Go Go.RowKit Go.Lib Go.Shelf
/-- A slice of terms in a block: all its cells at once. -/
theorem UAt.open {T:TypeId} {W:World} {p:Option Addr} {l:List RT} (h:UAt T W p l) (h0:0<l.length):∃ g cur,p=some ⟨g,0,none⟩∧Row W g (.cells cur T)
  ∧ ∀ i,i<l.length→cur[i * 3]? = some (.int .i64 (uD l i).s)∧cur[i * 3+1]? = some (.string (uD l i).a)∧cur[i * 3+2]? = some (.string (uD l i).b):=by
 rcases h with ⟨rfl,_⟩ | ⟨g,cur,rfl,hr,hx⟩
 ·simp at h0
 ·exact ⟨g,cur,rfl,hr,fun i hi=>by
   have key:∀ j,j<3→cur[i * 3+j]? = (uC (uD l i))[j]? := fun j hj=>by
    rw [← uCells_get hi j hj,← hx,List.getElem?_take,if_pos (by omega),Array.getElem?_toList]
   exact ⟨key 0 (by omega),key 1 (by omega),key 2 (by omega)⟩⟩
/-! Terms whose strings spell fractions. -/
end Go.Proofs.YtjpkfjmmmmfeeaaGreatDoor
namespace Go.Proofs.YtjpkfjmmmmfeeaaGreatDoor
open Go Go.Lib
theorem ahead_gr {d m s:Nat} {c:Rat} {l:List Trm} (hc:Gr d m c) (hl:∀ p,p ∈ l→Gr d m p.c):∀ p,p ∈ ahead s c l→Gr d m p.c:=fun p hp=>by
 rcases ahead_mem hp with ⟨rfl,_⟩ | hp
 ·exact hc
 ·exact hl p hp
theorem lin_gr {d m:Nat} {p q:Rat}:∀ (n:Nat) (a b:List Trm),a.length+b.length≤n→(∀ x,x ∈ a→Gr d m (p * x.c))→(∀ y,y ∈ b→Gr d m (q * y.c))→∀ t,t ∈ lin p q a b→Gr d (m+m) t.c:=by
 intro n
 induction n with
 | zero =>
  intro a b hn ha hb
  have e1:a=[]:=List.length_eq_zero_iff.1 (by omega)
  have e2:b=[]:=List.length_eq_zero_iff.1 (by omega)
  subst e1 e2
  rw [lin_nil];intro t ht;simp at ht
 | succ n ih =>
  intro a b hn ha hb
  match a,b with
  | [],[]=>rw [lin_nil];intro t ht;simp at ht
  | x :: a,[]=>rw [lin_left];exact ahead_gr ((ha x (by simp)).mono (by omega)) (ih a [] (by simp at hn ⊢;omega) (fun t ht=>ha t (by simp [ht])) (by simp))
  | [],y :: b=>rw [lin_right];exact ahead_gr ((hb y (by simp)).mono (by omega)) (ih [] b (by simp at hn ⊢;omega) (by simp) (fun t ht=>hb t (by simp [ht])))
  | x :: a,y :: b =>
   rw [List.length_cons,List.length_cons] at hn
   rw [lin_both]
   split
   ·exact ahead_gr ((ha x (by simp)).mono (by omega)) (ih a (y :: b) (by simp;omega) (fun t ht=>ha t (by simp [ht])) hb)
   ·split
    ·exact ahead_gr ((hb y (by simp)).mono (by omega)) (ih (x :: a) b (by simp;omega) ha (fun t ht=>hb t (by simp [ht])))
    ·exact ahead_gr ((ha x (by simp)).add (hb y (by simp))) (ih a b (by omega) (fun t ht=>ha t (by simp [ht])) (fun t ht=>hb t (by simp [ht])))
/-- A combination of forms on a grid. -/
theorem comb_gr {d m e s:Nat} {p q:Rat} {a b:Frm} (ha:FGr d m a) (hb:FGr d m b) (hp:Gr e s p) (hq:Gr e s q):FGr (e * d) (s * m+s * m) (combF p q a b) :=
 ⟨(hp.mul ha.c).add (hq.mul hb.c),lin_gr _ a.t b.t (Nat.le_refl _) (fun x hx=>hp.mul (ha.t x hx)) (fun y hy=>hq.mul (hb.t y hy)),(hp.abs.mul ha.r).add (hq.abs.mul hb.r)⟩
/-! When nothing is too large. -/
end Go.Proofs.YtjpkfjmmmmfeeaaGreatDoor
namespace Go.Proofs.YtjpkfjmmmmfeeaaGreatDoor
open Go Go.RowKit Go.Lib Go.Shelf
attribute [local go_sem] normalQ
theorem aadd {a b:Frm} (h:CombF 1 1 a b) (oa:a.Ok) (ob:b.Ok) (da:FDig 200 a) (db:FDig 200 b) (pa:Option Addr) (ca:Nat) (pb:Option Addr) (cb:Nat) (w:World) (hpa:TAt 51 w pa a.t) (hpb:TAt 51 w pb b.t) (he:Env w):Calls Tryz.prog 22 #[FV a pa ca,FV b pb cb] w (FRes (combF 1 1 a b) w):=by
 have hB:Below w.heap.size w w:=Below.refl _ _
 have HPa:=Lib.hid hpa
 have HPb:=Lib.hid hpb
 have M1:=fun W (H:Env W)=>awhole (n:=1) (by decide) whole1 W H
 have M2:=fun W (H:Env W)=>awhole (n:=1) (by decide) whole1 W H
 have MC:=fun W (h1:TAt 51 W pa a.t) (h2:TAt 51 W pb b.t) (H:Env W)=>FRes.say (acombine h oa ob da db pa ca pb cb W h1 h2 H)
 generalize combF 1 1 a b=G at *
 unfold FRes
 unfold FV at *
 unfold QIs at M1 M2
 unfold Q at *
 generalize (1:Rat)=o1 at *
 clear hpa hpb h oa ob da db
 go_enter Tryz.func22, Tryz.ntmps22
 go_wp2_with fail
 have d0_o:w.heap.size≤w.heap.size+1+1:=by have:=hB.size;omega
 have sB:=hB.size
 refine wp_cut (fun X=>Below w.heap.size w X∧Row X w.heap.size (.cells #[.string (S a.c.num),.string (S (a.c.den:Int)),.slice pa a.t.length ca,.string (S a.r.num),.string (S (a.r.den:Int))] 30)∧Row X (w.heap.size+1) (.cells #[.string (S b.c.num),.string (S (b.c.den:Int)),.slice pb b.t.length cb,.string (S b.r.num),.string (S (b.r.den:Int))] 30)∧Row X (w.heap.size+1+1) (.cells #[.string ⟨#[]⟩,.string ⟨#[]⟩,.slice none 0 0,.string ⟨#[]⟩,.string ⟨#[]⟩] 30)) ⟨BW,RW8,RW8,RW8⟩ ?_
 clear hB sB
 rintro V1 ⟨hB,ra,rb,ro⟩
 obtain ⟨sa,ca0,ca1,ca2,ca3,ca4⟩:=RF5 ra
 obtain ⟨sb,cb0,cb1,cb2,cb3,cb4⟩:=RF5 rb
 obtain ⟨so,co0,co1,co2,co3,co4,fo0,fo1,fo2,fo3,fo4⟩:=RFz5 ro
 refine wp_region_late 7 [6] [.val (.agg #[.string (S a.c.num),.string (S (a.c.den:Int)),.slice pa a.t.length ca,.string (S a.r.num),.string (S (a.r.den:Int))]),.val (.agg #[.string (S b.c.num),.string (S (b.c.den:Int)),.slice pb b.t.length cb,.string (S b.r.num),.string (S (b.r.den:Int))]),.val (.agg #[.string (S o1.num),.string (S (o1.den:Int))]),.val (.agg #[.string (S o1.num),.string (S (o1.den:Int))]),.say (SayFT G),.say (SayF G),.val (.int .i64 0)] [] (by kernel_rfl) (by kernel_rfl) (by kernel_rfl) rfl ⟨SayFT.mono _,⟨SayF.mono _,trivial⟩⟩ (allItems.cons (qi1 fun X h=>RF5 (Row.below ra h)) (allItems.cons (qi1 fun X h=>RF5 (Row.below rb h)) (allItems.cons (qi2 fun X h=>M1 X (he.below (hB.trans (h.mono hB.size)))) (allItems.cons (qi2 fun X h=>M2 X (he.below (hB.trans (h.mono hB.size)))) (allItems.cons (qi3 fun X h=>MC X (UAt.below HPa.out (hB.trans (h.mono hB.size))) (UAt.below HPb.out (hB.trans (h.mono hB.size))) (he.below (hB.trans (h.mono hB.size)))) (allItems.cons (by intro ρ X qX qc qg qf qt qd;simp [depsSay,itemSp,QItem.sp,Region.binds] at qd;obtain ⟨p,c,e,h1⟩:=qd;simp [Region.wanted,yieldedBy,quietly,QItem.sp,execOp,go_sem,foreign,qc,qt,qf,Below.refl,e];exact ⟨p,c,rfl,h1⟩) (allItems.cons (qId' (by intro ρ X qX qc qg qf qt qd;simp [depsSay,itemSp,QItem.sp,Region.binds] at qd;obtain ⟨p,c,e,h1⟩:=qd;simp [Region.wanted,yieldedBy,quietly,QItem.sp,execOp,go_sem,foreign,qc,qt,qf,Below.refl,e])) trivial))))))) ?_
 rintro W h1
 have stp:=St3 hB h1 ra rb ro;clear hB h1 ra sa ca0 ca1 ca2 ca3 ca4 rb sb cb0 cb1 cb2 cb3 cb4 ro so co0 co1 co2 co3 co4 fo0 fo1 fo2 fo3 fo4
 obtain ⟨hB,ra,rb,ro⟩:=stp
 obtain ⟨sa,ca0,ca1,ca2,ca3,ca4⟩:=RF5 ra
 obtain ⟨sb,cb0,cb1,cb2,cb3,cb4⟩:=RF5 rb
 obtain ⟨so,co0,co1,co2,co3,co4,fo0,fo1,fo2,fo3,fo4⟩:=RFz5 ro
 simp only [setItems,List.setIfInBounds_toArray,List.set_cons_succ,List.set_cons_zero,List.take_succ_cons,List.take_zero,List.drop_succ_cons,List.drop_zero]
 rintro _ -
 rintro _ ⟨pg,cg,rfl,hT⟩
 intro _
 go_wp2_with fail
 unfold normalQ
 go_wp2_with fail
 have sB:=hB.size
 refine post_cut (fun X=>Below w.heap.size w X∧Row X (w.heap.size+1+1) (.cells #[.string (S G.c.num),.string (S (G.c.den:Int)),.slice pg G.t.length cg,.string (S G.r.num),.string (S (G.r.den:Int))] 30)∧TAt 51 X pg G.t) ⟨BW,RW8,TW⟩ ?_
 clear ra
 clear sa ca0 ca1 ca2 ca3 ca4
 clear rb
 clear sb cb0 cb1 cb2 cb3 cb4
 clear ro
 clear so co0 co1 co2 co3 co4 fo0 fo1 fo2 fo3 fo4
 clear hB sB hT
 rintro V2 ⟨hB,ro,hT⟩
 obtain ⟨so,co0,co1,co2,co3,co4,fo0,fo1,fo2,fo3,fo4⟩:=RFz5 ro
 refine bodyPost_ret (v := .tuple #[.agg #[.string (S G.c.num),.string (S (G.c.den:Int)),.slice pg G.t.length cg,.string (S G.r.num),.string (S (G.r.den:Int))],.int .i64 0]) ?res rfl ⟨pg,cg,hT,rfl,hB⟩
 case res=>simp [results,Tryz.results22, go_sem,co0,co1,co2,co3,co4]
end Go.Proofs.YtjpkfjmmmmfeeaaGreatDoor
namespace Go.Proofs.YtjpkfjmmmmfeeaaGreatDoor
open Go Go.ChangeShapes Go.WideShapes Go.ChangeAt Go.RowKit Go.Lib Go.WideMaps Go.Joins
theorem lawOwn:ownKnob Tryz.prog.godebug=none:=by kernel_rfl
end Go.Proofs.YtjpkfjmmmmfeeaaGreatDoor
