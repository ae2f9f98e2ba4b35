/-
 Package rational, over fractions whose parts are short: Valid, and the methods of a calculation. Package rational, over fractions whose parts are short: the exported functions. Package rational, over fractions whose parts are short: sums and differences. Words for walks whose variables are blocks of cells: what a block holds, from world to world.
-/
import Derived.Deep.RegionHeld3
import Derived.Test.YtdikaoahgleffaaGreatDoorWLaw1
import Derived.Test.YtdikaoahgleffaaGreatDoorWQPlain6
set_option maxRecDepth 100000
set_option maxHeartbeats 1000000
namespace Go.Proofs.YtdikaoahgleffaaGreatDoor
open Go Go.RowKit Go.Lib Go.Shelf
def Q (q:Rat):Value := .agg #[.string (S q.num),.string (S (q.den:Int))]
theorem S_one:S 1=⟨#[49]⟩:=by
 have h:Is ⟨#[49]⟩ 1:=is_lit (by decide) (by decide);exact h.eq.symm
theorem one_facts {W:World} {b:Nat} {v0:Value} {t:TypeId} (h:W.heap[b]? = some (.cells #[v0] t (0,0))) :
  W.cell? ⟨b,0,none⟩=some v0∧W.frozen? ⟨b,0,none⟩=false :=
 ⟨cell_of_row _ _ 0 _ _ _ h,frozen_of_row _ _ 0 _ _ h⟩
theorem setCell_same {W:World} {b:Nat} {v0:Value} {t:TypeId} (h:W.heap[b]? = some (.cells #[v0] t (0,0))):W.setCell ⟨b,0,none⟩ v0=W:=by
 have e:(W.setCell ⟨b,0,none⟩ v0).heap=W.heap:=by
  apply Array.ext_getElem?;intro k;by_cases hk:k=b
  ·subst hk;simp [World.setCell,Array.getElem?_modify,h]
  ·exact Below.heap_setCell _ _ _ _ hk
 cases W
 simp only [World.setCell] at e ⊢;rw [e]
def Wk (W:World) (p:Nat):Prop:=p<W.heap.size∧W.heap[p]? = some (.cells #[.bool false] 74 (0,0))
theorem Wk.below {W W':World} {p:Nat} (h:Wk W p) (hb:Below W.heap.size W W'):Wk W' p:=⟨Nat.lt_of_lt_of_le h.1 hb.size,(hb.block p h.1).trans h.2⟩
def Row (W:World) (b:Nat) (o:Obj):Prop:=b<W.heap.size∧W.heap[b]? = some o
abbrev oR (q:Rat):Obj:=.cells #[.string (S q.num),.string (S (q.den:Int))] 27
abbrev oN (q:Rat):Obj:=.cells #[.string (S q.num),.string (S (q.den:Int))] 67
abbrev oI (a b:Rat):Obj:=.cells #[.string (S a.num),.string (S (a.den:Int)),.string (S b.num),.string (S (b.den:Int))] 43
abbrev oF (a b:Rat) (p:Option Addr) (n c:Nat):Obj:=.cells #[.string (S a.num),.string (S (a.den:Int)),.slice p n c,.string (S b.num),.string (S (b.den:Int))] 30
abbrev oG (b:Rat) (p:Option Addr) (n c:Nat):Obj:=.cells #[.string ⟨#[]⟩,.string ⟨#[]⟩,.slice p n c,.string (S b.num),.string (S (b.den:Int))] 30
abbrev oT (s:Int) (q:Rat):Obj:=.cells #[.int .i64 s,.string (S q.num),.string (S (q.den:Int))] 55
abbrev oR0:Obj:=.cells #[.string ⟨#[]⟩,.string ⟨#[]⟩] 27
abbrev oN0:Obj:=.cells #[.string ⟨#[]⟩,.string ⟨#[]⟩] 67
abbrev oI0:Obj:=.cells #[.string ⟨#[]⟩,.string ⟨#[]⟩,.string ⟨#[]⟩,.string ⟨#[]⟩] 43
abbrev oF0:Obj:=.cells #[.string ⟨#[]⟩,.string ⟨#[]⟩,.slice none 0 0,.string ⟨#[]⟩,.string ⟨#[]⟩] 30
abbrev kp1 {n:Nat} {A V:World} {b0:Nat} {o0:Obj} (_:Below n A V) (_:Row V b0 o0) (p:World→Prop):World→Prop:=fun X=>Below n A X∧Row X b0 o0∧p X
abbrev kq1 {n:Nat} {A V:World} {b0:Nat} {o0:Obj} (_:Below n A V) (_:Row V b0 o0):World→Prop:=fun X=>Below n A X∧Row X b0 o0
abbrev kp2 {n:Nat} {A V:World} {b0 b1:Nat} {o0 o1:Obj} (_:Below n A V) (_:Row V b0 o0) (_:Row V b1 o1) (p:World→Prop):World→Prop:=fun X=>Below n A X∧Row X b0 o0∧Row X b1 o1∧p X
abbrev kq2 {n:Nat} {A V:World} {b0 b1:Nat} {o0 o1:Obj} (_:Below n A V) (_:Row V b0 o0) (_:Row V b1 o1):World→Prop:=fun X=>Below n A X∧Row X b0 o0∧Row X b1 o1
abbrev kp3 {n:Nat} {A V:World} {b0 b1 b2:Nat} {o0 o1 o2:Obj} (_:Below n A V) (_:Row V b0 o0) (_:Row V b1 o1) (_:Row V b2 o2) (p:World→Prop):World→Prop:=fun X=>Below n A X∧Row X b0 o0∧Row X b1 o1∧Row X b2 o2∧p X
abbrev kq3 {n:Nat} {A V:World} {b0 b1 b2:Nat} {o0 o1 o2:Obj} (_:Below n A V) (_:Row V b0 o0) (_:Row V b1 o1) (_:Row V b2 o2):World→Prop:=fun X=>Below n A X∧Row X b0 o0∧Row X b1 o1∧Row X b2 o2
abbrev kp4 {n:Nat} {A V:World} {b0 b1 b2 b3:Nat} {o0 o1 o2 o3:Obj} (_:Below n A V) (_:Row V b0 o0) (_:Row V b1 o1) (_:Row V b2 o2) (_:Row V b3 o3) (p:World→Prop):World→Prop:=fun X=>Below n A X∧Row X b0 o0∧Row X b1 o1∧Row X b2 o2∧Row X b3 o3∧p X
abbrev kq4 {n:Nat} {A V:World} {b0 b1 b2 b3:Nat} {o0 o1 o2 o3:Obj} (_:Below n A V) (_:Row V b0 o0) (_:Row V b1 o1) (_:Row V b2 o2) (_:Row V b3 o3):World→Prop:=fun X=>Below n A X∧Row X b0 o0∧Row X b1 o1∧Row X b2 o2∧Row X b3 o3
abbrev kp5 {n:Nat} {A V:World} {b0 b1 b2 b3 b4:Nat} {o0 o1 o2 o3 o4:Obj} (_:Below n A V) (_:Row V b0 o0) (_:Row V b1 o1) (_:Row V b2 o2) (_:Row V b3 o3) (_:Row V b4 o4) (p:World→Prop):World→Prop:=fun X=>Below n A X∧Row X b0 o0∧Row X b1 o1∧Row X b2 o2∧Row X b3 o3∧Row X b4 o4∧p X
abbrev kq5 {n:Nat} {A V:World} {b0 b1 b2 b3 b4:Nat} {o0 o1 o2 o3 o4:Obj} (_:Below n A V) (_:Row V b0 o0) (_:Row V b1 o1) (_:Row V b2 o2) (_:Row V b3 o3) (_:Row V b4 o4):World→Prop:=fun X=>Below n A X∧Row X b0 o0∧Row X b1 o1∧Row X b2 o2∧Row X b3 o3∧Row X b4 o4
abbrev kp6 {n:Nat} {A V:World} {b0 b1 b2 b3 b4 b5:Nat} {o0 o1 o2 o3 o4 o5:Obj} (_:Below n A V) (_:Row V b0 o0) (_:Row V b1 o1) (_:Row V b2 o2) (_:Row V b3 o3) (_:Row V b4 o4) (_:Row V b5 o5) (p:World→Prop):World→Prop:=fun X=>Below n A X∧Row X b0 o0∧Row X b1 o1∧Row X b2 o2∧Row X b3 o3∧Row X b4 o4∧Row X b5 o5∧p X
abbrev kq6 {n:Nat} {A V:World} {b0 b1 b2 b3 b4 b5:Nat} {o0 o1 o2 o3 o4 o5:Obj} (_:Below n A V) (_:Row V b0 o0) (_:Row V b1 o1) (_:Row V b2 o2) (_:Row V b3 o3) (_:Row V b4 o4) (_:Row V b5 o5):World→Prop:=fun X=>Below n A X∧Row X b0 o0∧Row X b1 o1∧Row X b2 o2∧Row X b3 o3∧Row X b4 o4∧Row X b5 o5
abbrev kp7 {n:Nat} {A V:World} {b0 b1 b2 b3 b4 b5 b6:Nat} {o0 o1 o2 o3 o4 o5 o6:Obj} (_:Below n A V) (_:Row V b0 o0) (_:Row V b1 o1) (_:Row V b2 o2) (_:Row V b3 o3) (_:Row V b4 o4) (_:Row V b5 o5) (_:Row V b6 o6) (p:World→Prop):World→Prop:=fun X=>Below n A X∧Row X b0 o0∧Row X b1 o1∧Row X b2 o2∧Row X b3 o3∧Row X b4 o4∧Row X b5 o5∧Row X b6 o6∧p X
abbrev kq7 {n:Nat} {A V:World} {b0 b1 b2 b3 b4 b5 b6:Nat} {o0 o1 o2 o3 o4 o5 o6:Obj} (_:Below n A V) (_:Row V b0 o0) (_:Row V b1 o1) (_:Row V b2 o2) (_:Row V b3 o3) (_:Row V b4 o4) (_:Row V b5 o5) (_:Row V b6 o6):World→Prop:=fun X=>Below n A X∧Row X b0 o0∧Row X b1 o1∧Row X b2 o2∧Row X b3 o3∧Row X b4 o4∧Row X b5 o5∧Row X b6 o6
abbrev kp8 {n:Nat} {A V:World} {b0 b1 b2 b3 b4 b5 b6 b7:Nat} {o0 o1 o2 o3 o4 o5 o6 o7:Obj} (_:Below n A V) (_:Row V b0 o0) (_:Row V b1 o1) (_:Row V b2 o2) (_:Row V b3 o3) (_:Row V b4 o4) (_:Row V b5 o5) (_:Row V b6 o6) (_:Row V b7 o7) (p:World→Prop):World→Prop:=fun X=>Below n A X∧Row X b0 o0∧Row X b1 o1∧Row X b2 o2∧Row X b3 o3∧Row X b4 o4∧Row X b5 o5∧Row X b6 o6∧Row X b7 o7∧p X
abbrev kq8 {n:Nat} {A V:World} {b0 b1 b2 b3 b4 b5 b6 b7:Nat} {o0 o1 o2 o3 o4 o5 o6 o7:Obj} (_:Below n A V) (_:Row V b0 o0) (_:Row V b1 o1) (_:Row V b2 o2) (_:Row V b3 o3) (_:Row V b4 o4) (_:Row V b5 o5) (_:Row V b6 o6) (_:Row V b7 o7):World→Prop:=fun X=>Below n A X∧Row X b0 o0∧Row X b1 o1∧Row X b2 o2∧Row X b3 o3∧Row X b4 o4∧Row X b5 o5∧Row X b6 o6∧Row X b7 o7
abbrev kp9 {n:Nat} {A V:World} {b0 b1 b2 b3 b4 b5 b6 b7 b8:Nat} {o0 o1 o2 o3 o4 o5 o6 o7 o8:Obj} (_:Below n A V) (_:Row V b0 o0) (_:Row V b1 o1) (_:Row V b2 o2) (_:Row V b3 o3) (_:Row V b4 o4) (_:Row V b5 o5) (_:Row V b6 o6) (_:Row V b7 o7) (_:Row V b8 o8) (p:World→Prop):World→Prop:=fun X=>Below n A X∧Row X b0 o0∧Row X b1 o1∧Row X b2 o2∧Row X b3 o3∧Row X b4 o4∧Row X b5 o5∧Row X b6 o6∧Row X b7 o7∧Row X b8 o8∧p X
abbrev kq9 {n:Nat} {A V:World} {b0 b1 b2 b3 b4 b5 b6 b7 b8:Nat} {o0 o1 o2 o3 o4 o5 o6 o7 o8:Obj} (_:Below n A V) (_:Row V b0 o0) (_:Row V b1 o1) (_:Row V b2 o2) (_:Row V b3 o3) (_:Row V b4 o4) (_:Row V b5 o5) (_:Row V b6 o6) (_:Row V b7 o7) (_:Row V b8 o8):World→Prop:=fun X=>Below n A X∧Row X b0 o0∧Row X b1 o1∧Row X b2 o2∧Row X b3 o3∧Row X b4 o4∧Row X b5 o5∧Row X b6 o6∧Row X b7 o7∧Row X b8 o8
theorem Row.below {W W':World} {b:Nat} {o:Obj} (h:Row W b o) (hb:Below W.heap.size W W'):Row W' b o:=⟨Nat.lt_of_lt_of_le h.1 hb.size,(hb.block b h.1).trans h.2⟩
theorem row_new (w:World) (o:Obj):Row (w.alloc o) w.heap.size o:=⟨by simp,heap_alloc_new _ _⟩
theorem Row.alloc {W:World} {b:Nat} {o:Obj} (h:Row W b o) (o':Obj):Row (W.alloc o') b o:=h.below ((Below.refl _ _).alloc (Nat.le_refl _) o')
theorem Wk.alloc {W:World} {p:Nat} (h:Wk W p) (o':Obj):Wk (W.alloc o') p:=h.below ((Below.refl _ _).alloc (Nat.le_refl _) o')
def SOk (z:Int) (w:World) (e:Ending) (w':World):Prop:=e = .returned (.string (S z))∧Below w.heap.size w w'
theorem qvalid (q:Rat) (h:QDig 200 q) (w:World) (he:Env w):Calls Tryz.prog 39 #[Q q] w (BoolOk true w):=by
 have i0:Is ⟨#[48]⟩ 0:=is_zero;have f0:Fits 0:=fits_zero;have hn:=is_S q.num;have hd:=is_S (q.den:Int);have fn:Fits q.num:=h.1;have fd:Fits (q.den:Int):=h.2;have V1:Hid (validB (S q.num).data.toList=true):=Lib.hid (hn.valid fn);have V2:Hid (validB (S (q.den:Int)).data.toList=true):=Lib.hid (hd.valid fd);have C:Hid (cmpZ (q.den:Int) 0=1):=Lib.hid (cmpZ_gt (den_pos q));have G:Hid (((q.num.natAbs.gcd (q.den:Int).natAbs:Nat):Int)=1):=Lib.hid (by rw [rat_parts];rfl);have hB:Below w.heap.size w w:=Below.refl _ _;unfold Q;generalize S q.num=sn at *;generalize S (q.den:Int)=sd at *;have hr:=row_new w (.cells #[.string sn,.string sd] 27);replace hB:=hB.alloc (Nat.le_refl _) (.cells #[.string sn,.string sd] 27);go_enter Tryz.func39, Tryz.ntmps39;go_wp2_with fail;generalize w.alloc (.cells #[.string sn,.string sd] 27)=W0 at *;refine (validS V1 (hn.str fn) _).mono ?_;rintro e W ⟨rfl,hb⟩;replace hB:=hB.trans (hb.mono hB.size);replace hr:=hr.below hb;obtain ⟨c1,c2,_,_⟩:=two_facts hr.2;clear hb;go_wp2_with fail;refine (validS V2 (hd.str fd) _).mono ?_;rintro e W ⟨rfl,hb⟩;replace hB:=hB.trans (hb.mono hB.size);replace hr:=hr.below hb;obtain ⟨c1,c2,_,_⟩:=two_facts hr.2;clear hb;go_wp2_with fail;refine (cmpS hd i0 C fd f0 _).mono ?_;rintro e W ⟨rfl,hb⟩;replace hB:=hB.trans (hb.mono hB.size);replace hr:=hr.below hb;obtain ⟨c1,c2,_,_⟩:=two_facts hr.2;clear hb;go_wp2_with fail;refine (gcdS hn hd G fn fd _ (he.below hB)).mono ?_
 rintro e W ⟨rfl,hb⟩;replace hB:=hB.trans (hb.mono hB.size);replace hr:=hr.below hb;obtain ⟨c1,c2,_,_⟩:=two_facts hr.2;clear hb;rw [S_one];go_wp2;refine bodyPost_ret (v := .bool true) ?res rfl ⟨rfl,hB⟩
 case res=>simp [results,Tryz.f39, go_sem]
theorem qvalid_zero (w:World):Calls Tryz.prog 39 #[.agg #[.string ⟨#[]⟩,.string ⟨#[]⟩]] w (BoolOk false w):=by
 have V:Hid (validB (⟨#[]⟩:ByteArray).data.toList=false):=Lib.hid (by decide);have hB:Below w.heap.size w w:=Below.refl _ _;replace hB:=hB.alloc (Nat.le_refl _) oR0;go_enter Tryz.func39, Tryz.ntmps39;go_wp2_with fail;refine (validS V (by unfold Str;decide) _).mono ?_;rintro e W ⟨rfl,hb⟩;replace hB:=hB.trans (hb.mono hB.size);clear hb;go_wp2;refine bodyPost_ret (v := .bool false) ?res rfl ⟨rfl,hB⟩
 case res=>simp [results,Tryz.f39, go_sem]
theorem wdo (p:Nat) (F:FuncId) (a b:ByteArray) (z:Int) (w:World) (eg:∀ args w,(callFunc F args).run Tryz.prog w = .ok (.enter F args) w) (hw:Wk w p)
  (h:Calls Tryz.prog F #[.string a,.string b] w (StrOk z w)) :
  Calls Tryz.prog 103 #[.pointer (some ⟨p,0,none⟩),.func (.func F) #[] #[],.string a,.string b] w (SOk z w):=by
 obtain ⟨c0,f0⟩:=one_facts hw.2;go_enter Tryz.func103, Tryz.ntmps103;go_wp2_with (go_at_fn F;refine h.mono ?_;rintro e W1 ⟨rfl,hb⟩;have hw1:=hw.below hb;obtain ⟨c1,f1⟩:=one_facts hw1.2;have hs:=setCell_same hw1.2);refine bodyPost_ret (v := .string (S z)) ?res rfl ⟨rfl,hb⟩
 case res=>simp [results,Tryz.f103, go_sem]
theorem wmul (p:Nat) {a b:ByteArray} {x y v:Int} (ha:Is a x) (hb:Is b y) (hv:Hid (x * y=v)) (hx:Fits x) (hy:Fits y) (hf:Fits v) (w:World) (he:Env w) (hw:Wk w p) :
  Calls Tryz.prog 41 #[.pointer (some ⟨p,0,none⟩),.string a,.string b] w (SOk v w):=by
 have eg:∀ args w,(callFunc 110 args).run Tryz.prog w = .ok (.enter 110 args) w:=enters_of Tryz.func110 (by kernel_rfl) rfl;have H:=wdo p _ a b v w eg hw (mulS ha hb hv hx hy hf w he);go_enter Tryz.func41, Tryz.ntmps41;go_wp2_with fail;refine H.mono ?_;rintro e W ⟨rfl,hb⟩;go_wp2;refine bodyPost_ret (v := .string (S v)) ?res rfl ⟨rfl,hb⟩
 case res=>simp [results,Tryz.f41, go_sem]
theorem wquotient1 {a b:ByteArray} {x y v:Int} (ha:Is a x) (hb:Is b y) (hv:Hid (x / y=v)) (hx:Fits x) (hy:Fits y) (hy0:Hid (y≠0)) (w:World) (he:Env w) :
  Calls Tryz.prog 166 #[.string a,.string b] w (StrOk v w):=by
 go_enter Tryz.func166, Tryz.ntmps166;go_wp2_with fail;refine (divS ha hb hv (Lib.hid rfl) hx hy hy0 _ he).mono ?_;rintro e W ⟨rfl,hb⟩;go_wp2;refine bodyPost_ret (v := .tuple #[.string (S v),.int .i64 0]) ?res rfl ⟨rfl,hb⟩
 case res=>simp [results,Tryz.f166, go_sem]
theorem wquotient (p:Nat) {a b:ByteArray} {x y v:Int} (ha:Is a x) (hb:Is b y) (hv:Hid (x / y=v)) (hx:Fits x) (hy:Fits y) (hy0:Hid (y≠0)) (w:World) (he:Env w) (hw:Wk w p) :
  Calls Tryz.prog 111 #[.pointer (some ⟨p,0,none⟩),.string a,.string b] w (SOk v w):=by
 have hmf:∀ (fn:Fn) (first cap:Array Value) (w:World),(Instr.makeFunc fn first cap).run Tryz.prog w = .ok (.func fn first cap) w:=fun _ _ _ _=>rfl
 have eg:∀ args w,(callFunc 166 args).run Tryz.prog w = .ok (.enter 166 args) w:=enters_of Tryz.func166 (by kernel_rfl) rfl;have H:=wdo p _ a b v w eg hw (wquotient1 ha hb hv hx hy hy0 w he);go_enter Tryz.func111, Tryz.ntmps111;go_wp2_with fail;refine H.mono ?_;rintro e W ⟨rfl,hb⟩;go_wp2;refine bodyPost_ret (v := .string (S v)) ?res rfl ⟨rfl,hb⟩
 case res=>simp [results,Tryz.f111, go_sem]
def QOk (q:Rat) (w:World) (e:Ending) (w':World):Prop:=e = .returned (.tuple #[Q q,.int .i64 0])∧Below w.heap.size w w'
theorem gcd_pos' {n d:Int} (hd:d≠0):((n.natAbs.gcd d.natAbs:Nat):Int)≠0:=by
 have:=Nat.gcd_pos_of_pos_right n.natAbs (show 0<d.natAbs by omega);omega
theorem wreduced_pos (p:Nat) {a b:ByteArray} {n d:Int} (ha:Is a n) (hb:Is b d) (hn:Fits n) (hd:Fits d) (hd0:0<d) (w:World) (he:Env w) (hw:Wk w p) :
  Calls Tryz.prog 42 #[.pointer (some ⟨p,0,none⟩),.string a,.string b] w (QOk (Rat.divInt n d) w):=by
 have i0:Is ⟨#[48]⟩ 0:=is_zero;have f0:Fits 0:=fits_zero;have eg:∀ args w,(callFunc 109 args).run Tryz.prog w = .ok (.enter 109 args) w:=enters_of Tryz.func109 (by kernel_rfl) rfl;have nz:(b.toList == [48])=false:=by rw [hb.eq];exact S_ne0 (by omega)
 have C:Hid (cmpZ d 0=1):=Lib.hid (cmpZ_gt hd0);obtain ⟨g,hg⟩:∃ g:Int,g=((n.natAbs.gcd d.natAbs:Nat):Int):=⟨_,rfl⟩
 have G:=Lib.hid hg.symm;have fg:Fits g:=by rw [hg];exact gcd_fits hn hd
 have g0:Hid (g≠0):=Lib.hid (by rw [hg];exact gcd_pos' (by omega));have ig:=is_S g;obtain ⟨r1,r2⟩:=reduced_parts (n:=n) hd0;rw [← hg] at r1 r2;have R1:=Lib.hid r1.symm;have R2:=Lib.hid r2.symm;clear r1 r2 hg hd0;have hr:=row_new w oR0;have hne:p≠w.heap.size:=by have:=hw.1;omega
 replace hw:=hw.alloc oR0;obtain ⟨c0,fz0⟩:=one_facts hw.2;have hB:=(Below.refl w.heap.size w).alloc (Nat.le_refl _) oR0;unfold QOk Q;generalize Rat.divInt n d=q at *;go_enter Tryz.func42, Tryz.ntmps42;go_wp2_with fail;refine (cmpS hb i0 C hd f0 _).mono ?_;rintro e W ⟨rfl,h1⟩;replace hB:=hB.trans (h1.mono hB.size);replace hr:=hr.below h1;have hw1:=hw.below h1;clear h1;go_wp2_with fail;refine (wdo p _ a b g _ eg hw1 (gcdS ha hb G hn hd _ (he.below hB))).mono ?_;rintro e W2 ⟨rfl,h1⟩;replace hB:=hB.trans (h1.mono hB.size);replace hr:=hr.below h1;have hw2:=hw1.below h1;clear h1 hw1;go_wp2_with fail;refine (wquotient p ha ig R1 hn fg g0 _ (he.below hB) hw2).mono ?_;rintro e W3 ⟨rfl,h1⟩;replace hB:=hB.trans (h1.mono hB.size);replace hr:=hr.below h1;have hw3:=hw2.below h1;clear h1 hw2;go_wp2_with fail;refine (wquotient p hb ig R2 hd fg g0 _ (he.below hB) hw3).mono ?_;rintro e W4 ⟨rfl,h1⟩;replace hB:=hB.trans (h1.mono hB.size);replace hr:=hr.below h1;have hw4:=(hw3.below h1).alloc (oR q);have hn4:=row_new W4 (oR q);replace hr:=hr.alloc (oR q);replace hB:=hB.alloc hB.size (oR q);obtain ⟨c4,f4⟩:=one_facts hw4.2;obtain ⟨c5,c6,f5,f6⟩:=two_facts hr.2;obtain ⟨c7,c8,f7,f8⟩:=two_facts hn4.2;have hst:=store_two hr.2 (.string (S q.num)) (.string (S (q.den:Int)));obtain ⟨g1,g2,_,_⟩:=two_facts hst;have hBs:=(hB.setCell (p:=⟨w.heap.size,0,none⟩) (by simp) (.string (S q.num))).setCell (p:=⟨w.heap.size,1,none⟩) (by simp) (.string (S (q.den:Int)))
 clear h1 hw3;go_wp2;refine bodyPost_ret (v := .tuple #[.agg #[.string (S q.num),.string (S (q.den:Int))],.int .i64 0]) ?res rfl ⟨rfl,hBs⟩
 case res=>simp [results,Tryz.f42, go_sem,g1,g2]
theorem wreduced_neg (p:Nat) {a b:ByteArray} {n d:Int} (ha:Is a n) (hb:Is b d) (hn:Fits n) (hd:Fits d) (hd0:d<0) (w:World) (he:Env w) (hw:Wk w p) :
  Calls Tryz.prog 42 #[.pointer (some ⟨p,0,none⟩),.string a,.string b] w (QOk (Rat.divInt n d) w):=by
 have i0:Is ⟨#[48]⟩ 0:=is_zero;have f0:Fits 0:=fits_zero;have eg:∀ args w,(callFunc 109 args).run Tryz.prog w = .ok (.enter 109 args) w:=enters_of Tryz.func109 (by kernel_rfl) rfl;have es:∀ args w,(callFunc 38 args).run Tryz.prog w = .ok (.enter 38 args) w:=enters_of Tryz.func38 (by kernel_rfl) rfl;have nz:(b.toList == [48])=false:=by rw [hb.eq];exact S_ne0 (by omega)
 have C:Hid (cmpZ d 0 = -1):=Lib.hid (cmpZ_lt hd0);obtain ⟨n',hn'⟩:∃ n',n'=0 - n:=⟨_,rfl⟩
 obtain ⟨d',hd'⟩:∃ d',d'=0 - d:=⟨_,rfl⟩
 have N1:=Lib.hid hn'.symm;have N2:=Lib.hid hd'.symm;have fn':Fits n':=by rw [hn'];unfold Fits at *;omega
 have fd':Fits d':=by rw [hd'];unfold Fits at *;omega
 have e:Rat.divInt n d=Rat.divInt n' d':=by rw [← divInt_neg,hn',hd',Int.zero_sub,Int.zero_sub]
 rw [e];have hdp:0<d':=by omega
 obtain ⟨g,hg⟩:∃ g:Int,g=((n'.natAbs.gcd d'.natAbs:Nat):Int):=⟨_,rfl⟩
 have G:=Lib.hid hg.symm;have fg:Fits g:=by rw [hg];exact gcd_fits fn' fd'
 have g0:Hid (g≠0):=Lib.hid (by rw [hg];exact gcd_pos' (by omega));have ig:=is_S g;obtain ⟨r1,r2⟩:=reduced_parts (n:=n') hdp;rw [← hg] at r1 r2;have R1:=Lib.hid r1.symm;have R2:=Lib.hid r2.symm;have ha':=is_S n';have hb':=is_S d';clear r1 r2 hg hd0 hdp e hn' hd';have hr:=row_new w oR0;have hne:p≠w.heap.size:=by have:=hw.1;omega
 replace hw:=hw.alloc oR0;obtain ⟨c0,fz0⟩:=one_facts hw.2;have hB:=(Below.refl w.heap.size w).alloc (Nat.le_refl _) oR0;unfold QOk Q;generalize Rat.divInt n' d'=q at *;go_enter Tryz.func42, Tryz.ntmps42;go_wp2_with fail;refine (cmpS hb i0 C hd f0 _).mono ?_;rintro e W ⟨rfl,h1⟩;replace hB:=hB.trans (h1.mono hB.size);replace hr:=hr.below h1;have hw1:=hw.below h1;clear h1;go_wp2_with fail;refine (wdo p _ _ a n' _ es hw1 (subS i0 ha N1 f0 hn fn' _ (he.below hB))).mono ?_;rintro e W2 ⟨rfl,h1⟩;replace hB:=hB.trans (h1.mono hB.size);replace hr:=hr.below h1;have hw2:=hw1.below h1;clear h1 hw1;go_wp2_with fail;refine (wdo p _ _ b d' _ es hw2 (subS i0 hb N2 f0 hd fd' _ (he.below hB))).mono ?_;rintro e W2 ⟨rfl,h1⟩;replace hB:=hB.trans (h1.mono hB.size);replace hr:=hr.below h1;have hw3:=hw2.below h1;clear h1 hw2;go_wp2_with fail;refine (wdo p _ _ _ g _ eg hw3 (gcdS ha' hb' G fn' fd' _ (he.below hB))).mono ?_;rintro e W2 ⟨rfl,h1⟩;replace hB:=hB.trans (h1.mono hB.size);replace hr:=hr.below h1;have hw2:=hw3.below h1;clear h1 hw3;go_wp2_with fail;refine (wquotient p ha' ig R1 fn' fg g0 _ (he.below hB) hw2).mono ?_;rintro e W3 ⟨rfl,h1⟩;replace hB:=hB.trans (h1.mono hB.size);replace hr:=hr.below h1;have hw3:=hw2.below h1;clear h1 hw2;go_wp2_with fail;refine (wquotient p hb' ig R2 fd' fg g0 _ (he.below hB) hw3).mono ?_;rintro e W4 ⟨rfl,h1⟩;replace hB:=hB.trans (h1.mono hB.size);replace hr:=hr.below h1;have hw4:=(hw3.below h1).alloc (oR q)
 have hn4:=row_new W4 (oR q);replace hr:=hr.alloc (oR q);replace hB:=hB.alloc hB.size (oR q);obtain ⟨c4,f4⟩:=one_facts hw4.2;obtain ⟨c5,c6,f5,f6⟩:=two_facts hr.2;obtain ⟨c7,c8,f7,f8⟩:=two_facts hn4.2;have hst:=store_two hr.2 (.string (S q.num)) (.string (S (q.den:Int)));obtain ⟨g1,g2,_,_⟩:=two_facts hst;have hBs:=(hB.setCell (p:=⟨w.heap.size,0,none⟩) (by simp) (.string (S q.num))).setCell (p:=⟨w.heap.size,1,none⟩) (by simp) (.string (S (q.den:Int)));clear h1 hw3;go_wp2;refine bodyPost_ret (v := .tuple #[.agg #[.string (S q.num),.string (S (q.den:Int))],.int .i64 0]) ?res rfl ⟨rfl,hBs⟩
 case res=>simp [results,Tryz.f42, go_sem,g1,g2]
theorem wreduced (p:Nat) {a b:ByteArray} {n d:Int} (ha:Is a n) (hb:Is b d) (hn:Fits n) (hd:Fits d) (hd0:d≠0) (w:World) (he:Env w) (hw:Wk w p) :
  Calls Tryz.prog 42 #[.pointer (some ⟨p,0,none⟩),.string a,.string b] w (QOk (Rat.divInt n d) w):=by
 rcases Int.lt_or_gt_of_ne hd0 with h | h
 ·exact wreduced_neg p ha hb hn hd h w he hw
 ·exact wreduced_pos p ha hb hn hd h w he hw
end Go.Proofs.YtdikaoahgleffaaGreatDoor
namespace Go.Proofs.YtdikaoahgleffaaGreatDoor
open Go Go.RowKit Go.Lib Go.Shelf
def Two (W:World) (s:Nat) (a b:Rat):Prop:=Row W s (.cells #[.string (S a.num),.string (S (a.den:Int)),.string (S b.num),.string (S (b.den:Int))] 27)
def UnitOk (w:World) (e:Ending) (w':World):Prop:=e = .returned (.tuple #[])∧Below w.heap.size w w'
theorem wcheck2 (p s:Nat) (a b:Rat) (ha:QDig 200 a) (hb:QDig 200 b) (w:World) (he:Env w) (hw:Wk w p) (hs:Two w s a b) :
  Calls Tryz.prog 40 #[.pointer (some ⟨p,0,none⟩),.slice (some ⟨s,0,none⟩) 2 2] w (UnitOk w):=by
 go_enter Tryz.func40, Tryz.ntmps40;go_wp2_with fail;go_loopw [8] (fun iv wr=>∃ (k:Nat),k≤2∧iv = .int .i64 (k:Int)∧Wk wr p∧Two wr s a b∧Below w.heap.size w wr) (fun iv _=>2 - (RowKit.intOf iv).toNat)
 case atStart=>exact ⟨0,by omega,rfl,hw,hs,Below.refl _ _⟩
 case round =>
  obtain ⟨k,hk,rfl,hw',hs',hB'⟩:=hrel;have t0:=cell_of_row _ _ 0 _ _ _ hs'.2;have t1:=cell_of_row _ _ 1 _ _ _ hs'.2;have t2:=cell_of_row _ _ 2 _ _ _ hs'.2;have t3:=cell_of_row _ _ 3 _ _ _ hs'.2;simp only [List.getElem?_toArray,List.getElem?_cons_zero,List.getElem?_cons_succ] at t0 t1 t2 t3;rcases (show k=0∨k=1∨k=2 by omega) with rfl | rfl | rfl
  ·have hc:=hw'.alloc (oR a);have hsc:=hs'.alloc (oR a);have hBc:=hB'.alloc hB'.size (oR a);obtain ⟨d0,g0⟩:=one_facts hc.2;go_wp2_with (go_at_call 39; refine (qvalid a ha _ (he.below hBc)).mono ?_;rintro e W1 ⟨rfl,h1⟩;have hw1:=hc.below h1;have hs1:=Row.below hsc h1;obtain ⟨d1,g1⟩:=one_facts hw1.2;have hsame:=setCell_same hw1.2);exact ⟨⟨1,by omega,rfl,hw1,hs1,hBc.trans (h1.mono hBc.size)⟩,by simp [RowKit.intOf]⟩
  ·have hc:=hw'.alloc (oR b);have hsc:=hs'.alloc (oR b);have hBc:=hB'.alloc hB'.size (oR b);obtain ⟨d0,g0⟩:=one_facts hc.2;go_wp2_with (go_at_call 39; refine (qvalid b hb _ (he.below hBc)).mono ?_;rintro e W1 ⟨rfl,h1⟩;have hw1:=hc.below h1;have hs1:=Row.below hsc h1;obtain ⟨d1,g1⟩:=one_facts hw1.2;have hsame:=setCell_same hw1.2);exact ⟨⟨2,by omega,rfl,hw1,hs1,hBc.trans (h1.mono hBc.size)⟩,by simp [RowKit.intOf]⟩
  ·go_wp2;go_end0;exact ⟨rfl,hB'⟩
end Go.Proofs.YtdikaoahgleffaaGreatDoor
namespace Go.Proofs.YtdikaoahgleffaaGreatDoor
open Go Go.RowKit Go.Lib Go.Shelf
def One (W:World) (s:Nat) (a:Rat):Prop:=Row W s (oR a)
theorem wcheck1 (p s:Nat) (a:Rat) (ha:QDig 200 a) (w:World) (he:Env w) (hw:Wk w p) (hs:One w s a) :
  Calls Tryz.prog 40 #[.pointer (some ⟨p,0,none⟩),.slice (some ⟨s,0,none⟩) 1 1] w (UnitOk w):=by
 go_enter Tryz.func40, Tryz.ntmps40;go_wp2_with fail;go_loopw [8] (fun iv wr=>∃ (k:Nat),k≤1∧iv = .int .i64 (k:Int)∧Wk wr p∧One wr s a∧Below w.heap.size w wr) (fun iv _=>1 - (RowKit.intOf iv).toNat)
 case atStart=>exact ⟨0,by omega,rfl,hw,hs,Below.refl _ _⟩
 case round =>
  obtain ⟨k,hk,rfl,hw',hs',hB'⟩:=hrel;obtain ⟨t0,t1,_,_⟩:=two_facts hs'.2;rcases (show k=0∨k=1 by omega) with rfl | rfl
  ·have hc:=hw'.alloc (oR a);have hsc:=hs'.alloc (oR a);have hBc:=hB'.alloc hB'.size (oR a);obtain ⟨d0,g0⟩:=one_facts hc.2;go_wp2_with (go_at_call 39; refine (qvalid a ha _ (he.below hBc)).mono ?_;rintro e W1 ⟨rfl,h1⟩;have hw1:=hc.below h1;have hs1:=Row.below hsc h1;obtain ⟨d1,g1⟩:=one_facts hw1.2;have hsame:=setCell_same hw1.2);exact ⟨⟨1,by omega,rfl,hw1,hs1,hBc.trans (h1.mono hBc.size)⟩,by simp [RowKit.intOf]⟩
  ·go_wp2;go_end0;exact ⟨rfl,hB'⟩
end Go.Proofs.YtdikaoahgleffaaGreatDoor
namespace Go.Proofs.YtdikaoahgleffaaGreatDoor
open Go Go.RowKit Go.Lib Go.Shelf
theorem wk_new (w:World):Wk (w.alloc (.cells #[.bool false] 74)) w.heap.size:=⟨by simp,heap_alloc_new _ _⟩
theorem five_new (w:World) (o1 o2 o3 o4 o5:Obj):Row (((((w.alloc o1).alloc o2).alloc o3).alloc o4).alloc o5) w.heap.size o1∧Row (((((w.alloc o1).alloc o2).alloc o3).alloc o4).alloc o5) (w.heap.size+1) o2
  ∧ Row (((((w.alloc o1).alloc o2).alloc o3).alloc o4).alloc o5) (w.heap.size+1+1) o3∧Row (((((w.alloc o1).alloc o2).alloc o3).alloc o4).alloc o5) (w.heap.size+1+1+1) o4
  ∧ Row (((((w.alloc o1).alloc o2).alloc o3).alloc o4).alloc o5) (w.heap.size+1+1+1+1) o5∧Below w.heap.size w (((((w.alloc o1).alloc o2).alloc o3).alloc o4).alloc o5):=by
 have e1:(w.alloc o1).heap.size=w.heap.size+1:=by simp
 have e2:((w.alloc o1).alloc o2).heap.size=w.heap.size+1+1:=by simp
 have e3:(((w.alloc o1).alloc o2).alloc o3).heap.size=w.heap.size+1+1+1:=by simp
 have e4:((((w.alloc o1).alloc o2).alloc o3).alloc o4).heap.size=w.heap.size+1+1+1+1:=by simp
 refine ⟨((((row_new w o1).alloc o2).alloc o3).alloc o4).alloc o5,?_,?_,?_,?_,?_⟩
 ·rw [← e1];exact (((row_new (w.alloc o1) o2).alloc o3).alloc o4).alloc o5
 ·rw [← e2];exact ((row_new ((w.alloc o1).alloc o2) o3).alloc o4).alloc o5
 ·rw [← e3];exact (row_new (((w.alloc o1).alloc o2).alloc o3) o4).alloc o5
 ·rw [← e4];exact row_new ((((w.alloc o1).alloc o2).alloc o3).alloc o4) o5
 ·have h:=Below.refl w.heap.size w;exact ((((h.alloc (Nat.le_refl _) o1).alloc (by omega) o2).alloc (by omega) o3).alloc (by omega) o4).alloc (by omega) o5
theorem qmake {a b:ByteArray} {n d:Int} (ha:Is a n) (hb:Is b d) (hn:Fits n) (hd:Fits d) (hd0:d≠0) (w:World) (he:Env w) :
  Calls Tryz.prog 139 #[.string a,.string b] w (QOk (Rat.divInt n d) w):=by
 have V1:Hid (validB a.data.toList=true):=Lib.hid (ha.valid hn);have V2:Hid (validB b.data.toList=true):=Lib.hid (hb.valid hd);have hr:=row_new w oR0;have hB:=(Below.refl w.heap.size w).alloc (Nat.le_refl _) oR0;go_enter Tryz.func139, Tryz.ntmps139;go_wp2_with fail;refine (validS V1 (ha.str hn) _).mono ?_;rintro e W ⟨rfl,h1⟩;replace hB:=hB.trans (h1.mono hB.size);replace hr:=hr.below h1;clear h1;go_wp2_with fail;refine (validS V2 (hb.str hd) _).mono ?_;rintro e W ⟨rfl,h1⟩;replace hB:=hB.trans (h1.mono hB.size);replace hr:=hr.below h1;clear h1;go_wp2_with fail;refine (wreduced W.heap.size ha hb hn hd hd0 _ (he.below (hB.alloc hB.size _)) (wk_new _)).mono ?_;rintro e W3 ⟨rfl,h1⟩;replace hB:=(hB.alloc hB.size _).trans (h1.mono (hB.alloc hB.size _).size);replace hr:=(hr.alloc _).below h1;unfold QOk Q;generalize Rat.divInt n d=q at *;obtain ⟨c5,c6,f5,f6⟩:=two_facts hr.2;have hst:=store_two hr.2 (.string (S q.num)) (.string (S (q.den:Int)));obtain ⟨g1,g2,_,_⟩:=two_facts hst;have hBs:=(hB.setCell (p:=⟨w.heap.size,0,none⟩) (by simp) (.string (S q.num))).setCell (p:=⟨w.heap.size,1,none⟩) (by simp) (.string (S (q.den:Int)));go_wp2;refine bodyPost_ret (v := .tuple #[.agg #[.string (S q.num),.string (S (q.den:Int))],.int .i64 0]) ?res rfl ⟨rfl,hBs⟩
 case res=>simp [results,Tryz.f139, go_sem,g1,g2]
structure MF (a b:Rat):Prop where
 da:QDig 200 a
 db:QDig 200 b
 n:Fits (a.num * b.num)
 d:Fits ((a.den:Int) * (b.den:Int))
structure DF (a b:Rat):Prop where
 da:QDig 200 a
 db:QDig 200 b
 n:Fits (a.num * (b.den:Int))
 d:Fits ((a.den:Int) * b.num)
 b0:b≠0
theorem MF.of {j k:Nat} {a b:Rat} (ha:QDig j a) (hb:QDig k b) (hjk:j+k≤200):MF a b:=⟨ha.mono (by omega),hb.mono (by omega),(ha.1.mul hb.1).fits (by omega),(ha.2.mul hb.2).fits (by omega)⟩
theorem DF.of {j k:Nat} {a b:Rat} (ha:QDig j a) (hb:QDig k b) (hjk:j+k≤200) (hb0:b≠0):DF a b:=⟨ha.mono (by omega),hb.mono (by omega),(ha.1.mul hb.2).fits (by omega),(ha.2.mul hb.1).fits (by omega),hb0⟩
theorem qmulF {a b:Rat} (h:MF a b) (w:World) (he:Env w) :
  Calls Tryz.prog 15 #[Q a,Q b] w (QOk (a * b) w):=by
 have ha':=h.da;have hb':=h.db;obtain ⟨n,hn⟩:∃ n,n=a.num * b.num:=⟨_,rfl⟩
 obtain ⟨d,hd⟩:∃ d,d=(a.den:Int) * (b.den:Int):=⟨_,rfl⟩
 have E:Rat.divInt n d=a * b:=by rw [hn,hd];exact mul_parts a b
 have N1:=Lib.hid hn.symm;have N2:=Lib.hid hd.symm;have fn:Fits n:=by rw [hn];exact h.n
 have fd:Fits d:=by rw [hd];exact h.d
 have d0:d≠0:=by rw [hd];exact by have:=den_pos a;have:=den_pos b;exact Int.ne_of_gt (Int.mul_pos (by omega) (by omega))
 have ia:=is_S a.num;have ib:=is_S b.num;have ja:=is_S (a.den:Int);have jb:=is_S (b.den:Int);have fa:Fits a.num:=ha'.1;have fb:Fits b.num:=hb'.1;have ga:Fits (a.den:Int):=ha'.2;have gb:Fits (b.den:Int):=hb'.2;have jn:=is_S n;have jd:=is_S d;obtain ⟨r1,r2,r3,r4,r5,hB⟩:=five_new w (oR a) (oR b) oR0 (.cells #[.bool false] 74) (.cells #[.string (S a.num),.string (S (a.den:Int)),.string (S b.num),.string (S (b.den:Int))] 27);rw [← E];unfold QOk;show Calls Tryz.prog 15 #[.agg #[.string (S a.num),.string (S (a.den:Int))],.agg #[.string (S b.num),.string (S (b.den:Int))]] w _;clear hn hd E h;go_enter Tryz.func15, Tryz.ntmps15;go_wp2_with fail;generalize (((((w.alloc (oR a)).alloc (oR b)).alloc oR0).alloc (.cells #[.bool false] 74)).alloc (.cells #[.string (S a.num),.string (S (a.den:Int)),.string (S b.num),.string (S (b.den:Int))] 27))=W0 at *;replace r4:Wk W0 _:=r4;refine (wcheck2 _ _ a b ha' hb' _ (he.below hB) r4 r5).mono ?_;rintro e W ⟨rfl,h1⟩;replace hB:=hB.trans (h1.mono hB.size);replace r1:=r1.below h1;replace r2:=r2.below h1;replace r3:=r3.below h1;replace r4:=Wk.below r4 h1;obtain ⟨a1,a2,_,_⟩:=two_facts r1.2;obtain ⟨b1,b2,_,_⟩:=two_facts r2.2;clear h1 r5;go_wp2_with fail;refine (wmul _ ia ib N1 fa fb fn _ (he.below hB) r4).mono ?_;rintro e W ⟨rfl,h1⟩;replace hB:=hB.trans (h1.mono hB.size);replace r1:=r1.below h1
 replace r2:=r2.below h1;replace r3:=r3.below h1;replace r4:=Wk.below r4 h1;obtain ⟨a1,a2,_,_⟩:=two_facts r1.2;obtain ⟨b1,b2,_,_⟩:=two_facts r2.2;clear h1;go_wp2_with fail;refine (wmul _ ja jb N2 ga gb fd _ (he.below hB) r4).mono ?_;rintro e W ⟨rfl,h1⟩;replace hB:=hB.trans (h1.mono hB.size);replace r1:=r1.below h1;replace r2:=r2.below h1;replace r3:=r3.below h1;replace r4:=Wk.below r4 h1;obtain ⟨a1,a2,_,_⟩:=two_facts r1.2;obtain ⟨b1,b2,_,_⟩:=two_facts r2.2;clear h1;go_wp2_with fail;refine (wreduced _ jn jd fn fd d0 _ (he.below hB) r4).mono ?_;rintro e W ⟨rfl,h1⟩;replace hB:=hB.trans (h1.mono hB.size);replace r1:=r1.below h1;replace r2:=r2.below h1;replace r3:=r3.below h1;replace r4:=Wk.below r4 h1;obtain ⟨a1,a2,_,_⟩:=two_facts r1.2;obtain ⟨b1,b2,_,_⟩:=two_facts r2.2;clear h1;unfold Q;generalize hq:Rat.divInt n d=q at *;obtain ⟨x1,x2,x3,x4⟩:=two_facts r3.2;have hst:=store_two r3.2 (.string (S q.num)) (.string (S (q.den:Int)));obtain ⟨g1,g2,_,_⟩:=two_facts hst;have hBs:=(hB.setCell (p:=⟨w.heap.size+1+1,0,none⟩) (by simp;omega) (.string (S q.num))).setCell (p:=⟨w.heap.size+1+1,1,none⟩) (by simp;omega) (.string (S (q.den:Int)));go_wp2;refine bodyPost_ret (v := .tuple #[.agg #[.string (S q.num),.string (S (q.den:Int))],.int .i64 0]) ?res rfl ⟨by rw [hq];rfl,hBs⟩
 case res=>simp [results,Tryz.f15, go_sem,g1,g2]
theorem qdivF {a b:Rat} (h:DF a b) (w:World) (he:Env w) :
  Calls Tryz.prog 20 #[Q a,Q b] w (QOk (a / b) w):=by
 have ha':=h.da;have hb':=h.db;have hb0:=h.b0;obtain ⟨n,hn⟩:∃ n,n=a.num * (b.den:Int):=⟨_,rfl⟩
 obtain ⟨d,hd⟩:∃ d,d=(a.den:Int) * b.num:=⟨_,rfl⟩
 have E:Rat.divInt n d=a / b:=by rw [hn,hd];exact div_parts a b
 have N1:=Lib.hid hn.symm;have N2:=Lib.hid hd.symm;have fn:Fits n:=by rw [hn];exact h.n
 have fd:Fits d:=by rw [hd];exact h.d
 have d0:d≠0:=by rw [hd];exact Int.mul_ne_zero (by have:=den_pos a;omega) (by intro e;exact hb0 (Rat.num_eq_zero.1 e))
 have ia:=is_S a.num;have ib:=is_S b.num;have ja:=is_S (a.den:Int);have jb:=is_S (b.den:Int);have fa:Fits a.num:=ha'.1;have fb:Fits b.num:=hb'.1;have ga:Fits (a.den:Int):=ha'.2;have gb:Fits (b.den:Int):=hb'.2;have jn:=is_S n;have jd:=is_S d;obtain ⟨r1,r2,r3,r4,r5,hB⟩:=five_new w (oR a) (oR b) oR0 (.cells #[.bool false] 74) (.cells #[.string (S a.num),.string (S (a.den:Int)),.string (S b.num),.string (S (b.den:Int))] 27);rw [← E];unfold QOk;show Calls Tryz.prog 20 #[.agg #[.string (S a.num),.string (S (a.den:Int))],.agg #[.string (S b.num),.string (S (b.den:Int))]] w _;clear hn hd E h;go_enter Tryz.func20, Tryz.ntmps20;go_wp2_with fail;generalize (((((w.alloc (oR a)).alloc (oR b)).alloc oR0).alloc (.cells #[.bool false] 74)).alloc (.cells #[.string (S a.num),.string (S (a.den:Int)),.string (S b.num),.string (S (b.den:Int))] 27))=W0 at *;replace r4:Wk W0 _:=r4;refine (wcheck2 _ _ a b ha' hb' _ (he.below hB) r4 r5).mono ?_;rintro e W ⟨rfl,h1⟩;replace hB:=hB.trans (h1.mono hB.size);replace r1:=r1.below h1;replace r2:=r2.below h1;replace r3:=r3.below h1;replace r4:=Wk.below r4 h1;obtain ⟨a1,a2,_,_⟩:=two_facts r1.2;obtain ⟨b1,b2,_,_⟩:=two_facts r2.2;clear h1 r5;go_wp2_with fail;refine (wmul _ ia jb N1 fa gb fn _ (he.below hB) r4).mono ?_;rintro e W ⟨rfl,h1⟩;replace hB:=hB.trans (h1.mono hB.size);replace r1:=r1.below h1
 replace r2:=r2.below h1;replace r3:=r3.below h1;replace r4:=Wk.below r4 h1;obtain ⟨a1,a2,_,_⟩:=two_facts r1.2;obtain ⟨b1,b2,_,_⟩:=two_facts r2.2;clear h1;go_wp2_with fail;refine (wmul _ ja ib N2 ga fb fd _ (he.below hB) r4).mono ?_;rintro e W ⟨rfl,h1⟩;replace hB:=hB.trans (h1.mono hB.size);replace r1:=r1.below h1;replace r2:=r2.below h1;replace r3:=r3.below h1;replace r4:=Wk.below r4 h1;obtain ⟨a1,a2,_,_⟩:=two_facts r1.2;obtain ⟨b1,b2,_,_⟩:=two_facts r2.2;clear h1;go_wp2_with fail;refine (wreduced _ jn jd fn fd d0 _ (he.below hB) r4).mono ?_;rintro e W ⟨rfl,h1⟩;replace hB:=hB.trans (h1.mono hB.size);replace r1:=r1.below h1;replace r2:=r2.below h1;replace r3:=r3.below h1;replace r4:=Wk.below r4 h1;obtain ⟨a1,a2,_,_⟩:=two_facts r1.2;obtain ⟨b1,b2,_,_⟩:=two_facts r2.2;clear h1;unfold Q;generalize hq:Rat.divInt n d=q at *;obtain ⟨x1,x2,x3,x4⟩:=two_facts r3.2;have hst:=store_two r3.2 (.string (S q.num)) (.string (S (q.den:Int)));obtain ⟨g1,g2,_,_⟩:=two_facts hst;have hBs:=(hB.setCell (p:=⟨w.heap.size+1+1,0,none⟩) (by simp;omega) (.string (S q.num))).setCell (p:=⟨w.heap.size+1+1,1,none⟩) (by simp;omega) (.string (S (q.den:Int)));go_wp2;refine bodyPost_ret (v := .tuple #[.agg #[.string (S q.num),.string (S (q.den:Int))],.int .i64 0]) ?res rfl ⟨by rw [hq];rfl,hBs⟩
 case res=>simp [results,Tryz.f20, go_sem,g1,g2]
theorem qmul {j k:Nat} {a b:Rat} (ha:QDig j a) (hb:QDig k b) (hjk:j+k≤200) (w:World) (he:Env w) :
  Calls Tryz.prog 15 #[Q a,Q b] w (QOk (a * b) w):=qmulF (MF.of ha hb hjk) w he
theorem qdiv {j k:Nat} {a b:Rat} (ha:QDig j a) (hb:QDig k b) (hjk:j+k≤200) (hb0:b≠0) (w:World) (he:Env w) :
  Calls Tryz.prog 20 #[Q a,Q b] w (QOk (a / b) w):=qdivF (DF.of ha hb hjk hb0) w he
end Go.Proofs.YtdikaoahgleffaaGreatDoor
namespace Go.Proofs.YtdikaoahgleffaaGreatDoor
open Go Go.RowKit Go.Lib Go.Shelf
theorem wsum (F:FuncId) (eg:∀ args w,(callFunc F args).run Tryz.prog w = .ok (.enter F args) w) {a b:Rat} {x y n d:Int} {q:Rat} (ha':QDig 200 a) (hb':QDig 200 b)
  (hx:Hid (a.num * (b.den:Int)=x)) (hy:Hid (b.num * (a.den:Int)=y)) (hd:Hid ((a.den:Int) * (b.den:Int)=d)) (fx:Fits x) (fy:Fits y) (fn:Fits n) (fd:Fits d) (d0:d≠0) (E:Rat.divInt n d=q)
  (H:∀ W,Env W→Calls Tryz.prog F #[.string (S x),.string (S y)] W (StrOk n W)) (w:World) (he:Env w) :
  Calls Tryz.prog 36 #[.func (.func F) #[] #[],Q a,Q b] w (QOk q w):=by
 have ia:=is_S a.num;have ib:=is_S b.num;have ja:=is_S (a.den:Int);have jb:=is_S (b.den:Int);have fa:Fits a.num:=ha'.1;have fb:Fits b.num:=hb'.1;have ga:Fits (a.den:Int):=ha'.2;have gb:Fits (b.den:Int):=hb'.2;have jn:=is_S n;have jd:=is_S d;obtain ⟨r1,r2,r3,r4,r5,hB⟩:=five_new w (.cells #[.string (S a.num),.string (S (a.den:Int))] 27) (.cells #[.string (S b.num),.string (S (b.den:Int))] 27) (.cells #[.string ⟨#[]⟩,.string ⟨#[]⟩] 27) (.cells #[.bool false] 74) (.cells #[.string (S a.num),.string (S (a.den:Int)),.string (S b.num),.string (S (b.den:Int))] 27);rw [← E];unfold QOk;show Calls Tryz.prog 36 #[.func (.func F) #[] #[],.agg #[.string (S a.num),.string (S (a.den:Int))],.agg #[.string (S b.num),.string (S (b.den:Int))]] w _;clear E;go_enter Tryz.func36, Tryz.ntmps36;go_wp2_with fail;generalize (((((w.alloc (.cells #[.string (S a.num),.string (S (a.den:Int))] 27)).alloc (.cells #[.string (S b.num),.string (S (b.den:Int))] 27)).alloc (.cells #[.string ⟨#[]⟩,.string ⟨#[]⟩] 27)).alloc (.cells #[.bool false] 74)).alloc (.cells #[.string (S a.num),.string (S (a.den:Int)),.string (S b.num),.string (S (b.den:Int))] 27))=W0 at *;replace r4:Wk W0 _:=r4;refine (wcheck2 _ _ a b ha' hb' _ (he.below hB) r4 r5).mono ?_
 rintro e W ⟨rfl,h1⟩;replace hB:=hB.trans (h1.mono hB.size);replace r1:=r1.below h1;replace r2:=r2.below h1;replace r3:=r3.below h1;replace r4:=Wk.below r4 h1;obtain ⟨a1,a2,_,_⟩:=two_facts r1.2;obtain ⟨b1,b2,_,_⟩:=two_facts r2.2;clear h1 r5;have ix:=is_S x;have iy:=is_S y;have M1:=fun W (h:Env W) (h':Wk W (w.heap.size+1+1+1))=>wmul _ ia jb hx fa gb fx W h h'
 have M2:=fun W (h:Env W) (h':Wk W (w.heap.size+1+1+1))=>wmul _ ib ja hy fb ga fy W h h'
 have M3:=fun W (h:Env W) (h':Wk W (w.heap.size+1+1+1))=>wdo _ F _ _ n W eg h' (H W h)
 have M4:=fun W (h:Env W) (h':Wk W (w.heap.size+1+1+1))=>wmul _ ja jb hd ga gb fd W h h'
 have M5:=fun W (h:Env W) (h':Wk W (w.heap.size+1+1+1))=>wreduced _ jn jd fn fd d0 W h h'
 unfold SOk at M1 M2 M3 M4;clear H ix iy ia ib ja jb jn jd hx hy hd fa fb ga gb fx fy fn fd d0 ha' hb' eg;generalize S a.num=na at *;generalize S b.num=nb at *;generalize S (a.den:Int)=da at *;generalize S (b.den:Int)=db at *;generalize S x=sx at *;generalize S y=sy at *;generalize S n=sn at *;generalize S d=sd at *;go_wp2_with fail;go_region_held3 (fun X=>X.cell? ⟨w.heap.size,0,none⟩=some (.string na)∧X.cell? ⟨w.heap.size,1,none⟩=some (.string da)∧X.cell? ⟨w.heap.size+1,0,none⟩=some (.string nb)∧X.cell? ⟨w.heap.size+1,1,none⟩=some (.string db)) (first | exact ⟨a1,a2,b1,b2⟩) (first
  | (go_at_call 41; refine (M1 _ (by first | exact he.below hB | exact he.below hB.drew | exact he.below (below_drewN hB _)) (by exact r4)).mono ?_;rintro e W ⟨rfl,h1⟩;(try replace h1:=below_of_drew h1);replace hB:=hB.trans (h1.mono hB.size);replace r1:=r1.below h1;replace r2:=r2.below h1;replace r3:=r3.below h1;replace r4:=Wk.below r4 h1;obtain ⟨a1,a2,_,_⟩:=two_facts r1.2;obtain ⟨b1,b2,_,_⟩:=two_facts r2.2)
  | (go_at_call 41; refine (M2 _ (by first | exact he.below hB | exact he.below hB.drew | exact he.below (below_drewN hB _)) (by exact r4)).mono ?_;rintro e W ⟨rfl,h1⟩;(try replace h1:=below_of_drew h1);replace hB:=hB.trans (h1.mono hB.size);replace r1:=r1.below h1;replace r2:=r2.below h1;replace r3:=r3.below h1;replace r4:=Wk.below r4 h1;obtain ⟨a1,a2,_,_⟩:=two_facts r1.2;obtain ⟨b1,b2,_,_⟩:=two_facts r2.2)
  | (go_at_call 103; refine (M3 _ (by first | exact he.below hB | exact he.below hB.drew | exact he.below (below_drewN hB _)) (by exact r4)).mono ?_;rintro e W ⟨rfl,h1⟩;(try replace h1:=below_of_drew h1);replace hB:=hB.trans (h1.mono hB.size);replace r1:=r1.below h1;replace r2:=r2.below h1;replace r3:=r3.below h1;replace r4:=Wk.below r4 h1;obtain ⟨a1,a2,_,_⟩:=two_facts r1.2;obtain ⟨b1,b2,_,_⟩:=two_facts r2.2))
 go_wp2_with fail;refine (M4 _ (he.below hB) r4).mono ?_;rintro e W ⟨rfl,h1⟩;replace hB:=hB.trans (h1.mono hB.size);replace r1:=r1.below h1;replace r2:=r2.below h1;replace r3:=r3.below h1;replace r4:=Wk.below r4 h1;obtain ⟨a1,a2,_,_⟩:=two_facts r1.2;obtain ⟨b1,b2,_,_⟩:=two_facts r2.2;clear h1;go_wp2_with fail;refine (M5 _ (he.below hB) r4).mono ?_;rintro e W ⟨rfl,h1⟩;replace hB:=hB.trans (h1.mono hB.size);replace r1:=r1.below h1;replace r2:=r2.below h1;replace r3:=r3.below h1;replace r4:=Wk.below r4 h1;obtain ⟨a1,a2,_,_⟩:=two_facts r1.2;obtain ⟨b1,b2,_,_⟩:=two_facts r2.2;clear h1;unfold Q;generalize hq:Rat.divInt n d=q at *;obtain ⟨x1,x2,x3,x4⟩:=two_facts r3.2;have hst:=store_two r3.2 (.string (S q.num)) (.string (S (q.den:Int)));obtain ⟨g1,g2,_,_⟩:=two_facts hst;have hBs:=(hB.setCell (p:=⟨w.heap.size+1+1,0,none⟩) (by simp;omega) (.string (S q.num))).setCell (p:=⟨w.heap.size+1+1,1,none⟩) (by simp;omega) (.string (S (q.den:Int)));go_wp2;refine bodyPost_ret (v := .tuple #[.agg #[.string (S q.num),.string (S (q.den:Int))],.int .i64 0]) ?res rfl ⟨by rw [hq];rfl,hBs⟩
 case res=>simp [results,Tryz.f36, go_sem,g1,g2]
theorem three_rows (w:World) (o1 o2 o3:Obj):Row (((w.alloc o1).alloc o2).alloc o3) (w.heap.size+1+1) o3∧Below w.heap.size w (((w.alloc o1).alloc o2).alloc o3):=by
 have e1:(w.alloc o1).heap.size=w.heap.size+1:=by simp
 have e2:((w.alloc o1).alloc o2).heap.size=w.heap.size+1+1:=by simp
 refine ⟨?_,?_⟩
 ·rw [← e2];exact row_new ((w.alloc o1).alloc o2) o3
 ·exact (((Below.refl w.heap.size w).alloc (Nat.le_refl _) o1).alloc (by omega) o2).alloc (by omega) o3
structure AF (a b:Rat):Prop where
 da:QDig 200 a
 db:QDig 200 b
 x:Fits (a.num * (b.den:Int))
 y:Fits (b.num * (a.den:Int))
 n:Fits (a.num * (b.den:Int)+b.num * (a.den:Int))
 d:Fits ((a.den:Int) * (b.den:Int))
structure SF (a b:Rat):Prop where
 da:QDig 200 a
 db:QDig 200 b
 x:Fits (a.num * (b.den:Int))
 y:Fits (b.num * (a.den:Int))
 n:Fits (a.num * (b.den:Int) - b.num * (a.den:Int))
 d:Fits ((a.den:Int) * (b.den:Int))
theorem AF.of {j k:Nat} {a b:Rat} (ha:QDig j a) (hb:QDig k b) (hjk:j+k+1≤200):AF a b:=by
 have dx:=ha.1.mul hb.2;have dy:Dig (j+k) (b.num * (a.den:Int)):=by rw [Nat.add_comm];exact hb.1.mul ha.2
 exact ⟨ha.mono (by omega),hb.mono (by omega),dx.fits (by omega),dy.fits (by omega),(dx.add dy).fits (by omega),(ha.2.mul hb.2).fits (by omega)⟩
theorem SF.of {j k:Nat} {a b:Rat} (ha:QDig j a) (hb:QDig k b) (hjk:j+k+1≤200):SF a b:=by
 have dx:=ha.1.mul hb.2;have dy:Dig (j+k) (b.num * (a.den:Int)):=by rw [Nat.add_comm];exact hb.1.mul ha.2
 exact ⟨ha.mono (by omega),hb.mono (by omega),dx.fits (by omega),dy.fits (by omega),(dx.sub dy).fits (by omega),(ha.2.mul hb.2).fits (by omega)⟩
theorem qaddF {a b:Rat} (h:AF a b) (w:World) (he:Env w) :
  Calls Tryz.prog 11 #[Q a,Q b] w (QOk (a+b) w):=by
 have eg:∀ args w,(callFunc 37 args).run Tryz.prog w = .ok (.enter 37 args) w:=enters_of Tryz.func37 (by kernel_rfl) rfl;have d0:(a.den:Int) * (b.den:Int)≠0:=by have:=den_pos a;have:=den_pos b;exact Int.ne_of_gt (Int.mul_pos (by omega) (by omega))
 have H:=wsum 37 eg (a:=a) (b:=b) (q:=a+b) h.da h.db (Lib.hid rfl) (Lib.hid rfl) (Lib.hid rfl) h.x h.y h.n h.d d0 (add_parts a b)
  (fun W hW=>addS (is_S _) (is_S _) (Lib.hid rfl) h.x h.y h.n W hW)
 obtain ⟨r3,hB⟩:=three_rows w (oR a) (oR b) oR0;have H1:=H _ (he.below hB);clear H d0 h;unfold QOk at *;show Calls Tryz.prog 11 #[.agg #[.string (S a.num),.string (S (a.den:Int))],.agg #[.string (S b.num),.string (S (b.den:Int))]] w _;generalize hq:a+b=q at *;go_enter Tryz.func11, Tryz.ntmps11;go_wp2_with fail;generalize ((w.alloc (oR a)).alloc (oR b)).alloc oR0=W0 at *;refine H1.mono ?_;rintro e W ⟨rfl,h1⟩;replace hB:=hB.trans (h1.mono hB.size);replace r3:=r3.below h1;unfold Q;obtain ⟨x1,x2,x3,x4⟩:=two_facts r3.2;have hst:=store_two r3.2 (.string (S q.num)) (.string (S (q.den:Int)));obtain ⟨g1,g2,_,_⟩:=two_facts hst;have hBs:=(hB.setCell (p:=⟨w.heap.size+1+1,0,none⟩) (by simp;omega) (.string (S q.num))).setCell (p:=⟨w.heap.size+1+1,1,none⟩) (by simp;omega) (.string (S (q.den:Int)));go_wp2;refine bodyPost_ret (v := .tuple #[.agg #[.string (S q.num),.string (S (q.den:Int))],.int .i64 0]) ?res rfl ⟨rfl,hBs⟩
 case res=>simp [results,Tryz.f11, go_sem,g1,g2]
theorem qadd {j k:Nat} {a b:Rat} (ha:QDig j a) (hb:QDig k b) (hjk:j+k+1≤200) (w:World) (he:Env w) :
  Calls Tryz.prog 11 #[Q a,Q b] w (QOk (a+b) w):=qaddF (AF.of ha hb hjk) w he
theorem qsubF {a b:Rat} (h:SF a b) (w:World) (he:Env w) :
  Calls Tryz.prog 13 #[Q a,Q b] w (QOk (a - b) w):=by
 have eg:∀ args w,(callFunc 38 args).run Tryz.prog w = .ok (.enter 38 args) w:=enters_of Tryz.func38 (by kernel_rfl) rfl;have d0:(a.den:Int) * (b.den:Int)≠0:=by have:=den_pos a;have:=den_pos b;exact Int.ne_of_gt (Int.mul_pos (by omega) (by omega))
 have H:=wsum 38 eg (a:=a) (b:=b) (q:=a - b) h.da h.db (Lib.hid rfl) (Lib.hid rfl) (Lib.hid rfl) h.x h.y h.n h.d d0 (sub_parts a b)
  (fun W hW=>subS (is_S _) (is_S _) (Lib.hid rfl) h.x h.y h.n W hW)
 obtain ⟨r3,hB⟩:=three_rows w (oR a) (oR b) oR0;have H1:=H _ (he.below hB);clear H d0 h;unfold QOk at *;show Calls Tryz.prog 13 #[.agg #[.string (S a.num),.string (S (a.den:Int))],.agg #[.string (S b.num),.string (S (b.den:Int))]] w _;generalize hq:a - b=q at *;go_enter Tryz.func13, Tryz.ntmps13;go_wp2_with fail;generalize ((w.alloc (oR a)).alloc (oR b)).alloc oR0=W0 at *;refine H1.mono ?_;rintro e W ⟨rfl,h1⟩;replace hB:=hB.trans (h1.mono hB.size);replace r3:=r3.below h1;unfold Q;obtain ⟨x1,x2,x3,x4⟩:=two_facts r3.2;have hst:=store_two r3.2 (.string (S q.num)) (.string (S (q.den:Int)));obtain ⟨g1,g2,_,_⟩:=two_facts hst;have hBs:=(hB.setCell (p:=⟨w.heap.size+1+1,0,none⟩) (by simp;omega) (.string (S q.num))).setCell (p:=⟨w.heap.size+1+1,1,none⟩) (by simp;omega) (.string (S (q.den:Int)));go_wp2;refine bodyPost_ret (v := .tuple #[.agg #[.string (S q.num),.string (S (q.den:Int))],.int .i64 0]) ?res rfl ⟨rfl,hBs⟩
 case res=>simp [results,Tryz.f13, go_sem,g1,g2]
theorem qsub {j k:Nat} {a b:Rat} (ha:QDig j a) (hb:QDig k b) (hjk:j+k+1≤200) (w:World) (he:Env w) :
  Calls Tryz.prog 13 #[Q a,Q b] w (QOk (a - b) w):=qsubF (SF.of ha hb hjk) w he
end Go.Proofs.YtdikaoahgleffaaGreatDoor
namespace Go.Proofs.YtdikaoahgleffaaGreatDoor
open Go Go.RowKit Go.Lib Go.Shelf
theorem world_cut {P:Program} {F:FuncId} {args:Array Value} {w:World} {R:Ending→World→Prop} (p:World→Prop) (h0:p w) (h:∀ W,p W→Calls P F args W R):Calls P F args w R:=h w h0
theorem row_new' {w:World} {b:Nat} {o:Obj} (h:b=w.heap.size):Row (w.alloc o) b o:=h ▸ row_new w o
theorem Row.drew {W:World} {b:Nat} {o:Obj} (h:Row W b o):Row W.drew b o:=h
theorem Row.drewN {W:World} {b:Nat} {o:Obj} (h:Row W b o) (k:Nat):Row (W.drewN k) b o:=h
theorem Row.set_other {W:World} {b c i:Nat} {o:Obj} (h:Row W b o) (v:Value) (hne:b≠c):Row (W.setCell ⟨c,i,none⟩ v) b o :=
 ⟨by simpa using h.1,by rw [Below.heap_setCell _ _ _ _ hne];exact h.2⟩
theorem Row.set_same {W:World} {b i:Nat} {vs vs':Array Value} {v:Value} {t:TypeId} (h:Row W b (.cells vs t)) (e:vs.setIfInBounds i v=vs'):Row (W.setCell ⟨b,i,none⟩ v) b (.cells vs' t) :=
 ⟨by simpa using h.1,by simp [World.setCell,Array.getElem?_modify,h.2,e]⟩
theorem Row.set2 {W:World} {b:Nat} {v0 v1 u0 u1:Value} {t:TypeId} (h:Row W b (.cells #[v0,v1] t)):Row ((W.setCell ⟨b,0,none⟩ u0).setCell ⟨b,1,none⟩ u1) b (.cells #[u0,u1] t):=(h.set_same rfl).set_same rfl
theorem Row.set4 {W:World} {b:Nat} {v0 v1 v2 v3 u0 u1 u2 u3:Value} {t:TypeId} (h:Row W b (.cells #[v0,v1,v2,v3] t)) :
  Row ((((W.setCell ⟨b,0,none⟩ u0).setCell ⟨b,1,none⟩ u1).setCell ⟨b,2,none⟩ u2).setCell ⟨b,3,none⟩ u3) b (.cells #[u0,u1,u2,u3] t):=(((h.set_same rfl).set_same rfl).set_same rfl).set_same rfl
theorem Row.set1 {W:World} {b:Nat} {v0 u0:Value} {t:TypeId} (h:Row W b (.cells #[v0] t)):Row (W.setCell ⟨b,0,none⟩ u0) b (.cells #[u0] t):=h.set_same rfl
theorem Row.set4a {W:World} {b:Nat} {v0 v1 v2 v3 u0 u1:Value} {t:TypeId} (h:Row W b (.cells #[v0,v1,v2,v3] t)):Row ((W.setCell ⟨b,0,none⟩ u0).setCell ⟨b,1,none⟩ u1) b (.cells #[u0,u1,v2,v3] t):=(h.set_same rfl).set_same rfl
theorem Row.set4b {W:World} {b:Nat} {v0 v1 v2 v3 u2 u3:Value} {t:TypeId} (h:Row W b (.cells #[v0,v1,v2,v3] t)):Row ((W.setCell ⟨b,2,none⟩ u2).setCell ⟨b,3,none⟩ u3) b (.cells #[v0,v1,u2,u3] t):=(h.set_same rfl).set_same rfl
theorem post_cut {P:Program} {fn:Func} {R:Ending→World→Prop} {ex:Exit} {a:Act} {w:World} (p:World→Prop) (h0:p w) (h:∀ W,p W→bodyPost P fn R ex a W):bodyPost P fn R ex a w:=h w h0
theorem wp_cut {P:Program} {c:Code} {Q:Exit→Act→World→Prop} {a:Act} {w:World} (p:World→Prop) (h0:p w) (h:∀ W,p W→c.wp P Q a W):c.wp P Q a w:=h w h0
theorem Row.cells1 {W:World} {b:Nat} {v0:Value} {t:TypeId} (h:Row W b (.cells #[v0] t)):b<W.heap.size∧W.cell? ⟨b,0,none⟩=some v0∧W.frozen? ⟨b,0,none⟩=false:=⟨h.1,one_facts h.2⟩
theorem Row.cells2 {W:World} {b:Nat} {v0 v1:Value} {t:TypeId} (h:Row W b (.cells #[v0,v1] t)) :
  b<W.heap.size∧W.cell? ⟨b,0,none⟩=some v0∧W.cell? ⟨b,1,none⟩=some v1∧W.frozen? ⟨b,0,none⟩=false∧W.frozen? ⟨b,1,none⟩=false:=⟨h.1,two_facts h.2⟩
theorem Row.cells4 {W:World} {b:Nat} {v0 v1 v2 v3:Value} {t:TypeId} (h:Row W b (.cells #[v0,v1,v2,v3] t)) :
  b<W.heap.size∧W.cell? ⟨b,0,none⟩=some v0∧W.cell? ⟨b,1,none⟩=some v1∧W.cell? ⟨b,2,none⟩=some v2∧W.cell? ⟨b,3,none⟩=some v3
   ∧ W.frozen? ⟨b,0,none⟩=false∧W.frozen? ⟨b,1,none⟩=false∧W.frozen? ⟨b,2,none⟩=false∧W.frozen? ⟨b,3,none⟩=false :=
 ⟨h.1,cell_of_row _ _ 0 _ _ _ h.2,cell_of_row _ _ 1 _ _ _ h.2,cell_of_row _ _ 2 _ _ _ h.2,cell_of_row _ _ 3 _ _ _ h.2,frozen_of_row _ _ 0 _ _ h.2,frozen_of_row _ _ 1 _ _ h.2,frozen_of_row _ _ 2 _ _ h.2,frozen_of_row _ _ 3 _ _ h.2⟩
end Go.Proofs.YtdikaoahgleffaaGreatDoor
