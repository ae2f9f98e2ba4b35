/- Package rational, over fractions whose parts are short: Valid, and the. -/
import Derived.Test.YtdiecekagiledaaGreatDoorVLaw1
import Derived.Test.YtdiecekagiledaaGreatDoorVQPlain6
set_option linter.unusedSimpArgs false
set_option linter.unusedVariables false
set_option maxRecDepth 100000
set_option maxHeartbeats 1000000
namespace Go.Proofs.YtdiecekagiledaaGreatDoor
open Go Go.RowKit Go.Lib Go.Shelf Go.Proofs.Tryz
def Q(q:Rat):Value:=.agg #[.string (S q.num),.string (S (q.den:Int))]
abbrev Ac(q:Rat):Value:=.agg #[.string (S q.num),.string (S (q.den:Int))]
theorem vcw:S 1=⟨#[49]⟩:=by
 have h:Is ⟨#[49]⟩ 1:=jbt dd dd;exact h.eq.symm
theorem vq{W:World}{b:Nat}{v0:Value}{t:TypeId}(h:W.heap[b]? = some (.cells #[v0] t (0,0))) :
  W.cell? ⟨b,0,none⟩=some v0/\W.frozen? ⟨b,0,none⟩=false :=
 ⟨cell_of_row _ _ 0 _ _ _ h,frozen_of_row _ _ 0 _ _ h⟩
theorem zQ{W:World}{b:Nat}{v0:Value}{t:TypeId}(h:W.heap[b]? = some (.cells #[v0] t (0,0))):W.setCell ⟨b,0,none⟩ v0=W:=by
 have e:(W.setCell ⟨b,0,none⟩ v0).heap=W.heap:=by
  apply Array.ext_getElem?;intro k;by_cases hk:k=b
  ·subst hk;simp[World.setCell,BN,h]
  ·exact Below.heap_setCell _ _ _ _ hk
 cases W
 simp only[World.setCell]at e ⊢;rw[e]
def Wk(W:World)(p:Nat):Prop:=p<W.heap.size/\W.heap[p]? = some (.cells #[.bool false] 174 (0,0))
theorem Wk.below{W W':World}{p:Nat}(h:Wk W p)(hb:Below W.heap.size W W'):Wk W' p:=⟨AG h.1 hb.size,(hb.block p h.1).trans h.2⟩
def Row(W:World)(b:Nat)(o:Obj):Prop:=b<W.heap.size/\W.heap[b]? = some o
abbrev oR(q:Rat):Obj:=.cells #[.string (S q.num),.string (S (q.den:Int))] 23
abbrev oN(q:Rat):Obj:=.cells #[.string (S q.num),.string (S (q.den:Int))] 66
abbrev oI(a b:Rat):Obj:=.cells #[.string (S a.num),.string (S (a.den:Int)),.string (S b.num),.string (S (b.den:Int))] 44
abbrev oF(a b:Rat)(p:En)(n c:Nat):Obj:=.cells #[.string (S a.num),.string (S (a.den:Int)),.slice p n c,.string (S b.num),.string (S (b.den:Int))] 26
abbrev oG(b:Rat)(p:En)(n c:Nat):Obj:=.cells #[.string ⟨#[]⟩,.string ⟨#[]⟩,.slice p n c,.string (S b.num),.string (S (b.den:Int))] 26
abbrev oT(s:Int)(q:Rat):Obj:=.cells #[.int .i64 s,.string (S q.num),.string (S (q.den:Int))] 34
abbrev oR0:Obj:=.cells #[.string ⟨#[]⟩,.string ⟨#[]⟩] 23
abbrev oN0:Obj:=.cells #[.string ⟨#[]⟩,.string ⟨#[]⟩] 66
abbrev oI0:Obj:=.cells #[.string ⟨#[]⟩,.string ⟨#[]⟩,.string ⟨#[]⟩,.string ⟨#[]⟩] 44
abbrev oF0:Obj:=.cells #[.string ⟨#[]⟩,.string ⟨#[]⟩,.slice none 0 0,.string ⟨#[]⟩,.string ⟨#[]⟩] 26
abbrev kp1{n:Nat}{A V:World}{b0:Nat}{o0:Obj}(_:Below n A V)(_:Row V b0 o0)(p:World->Prop):World->Prop:=fun X=>Below n A X/\Row X b0 o0/\p X
abbrev kq1{n:Nat}{A V:World}{b0:Nat}{o0:Obj}(_:Below n A V)(_:Row V b0 o0):World->Prop:=fun X=>Below n A X/\Row X b0 o0
abbrev kp2{n:Nat}{A V:World}{b0 b1:Nat}{o0 o1:Obj}(_:Below n A V)(_:Row V b0 o0)(_:Row V b1 o1)(p:World->Prop):World->Prop:=fun X=>Below n A X/\Row X b0 o0/\Row X b1 o1/\p X
abbrev kq2{n:Nat}{A V:World}{b0 b1:Nat}{o0 o1:Obj}(_:Below n A V)(_:Row V b0 o0)(_:Row V b1 o1):World->Prop:=fun X=>Below n A X/\Row X b0 o0/\Row X b1 o1
abbrev kp3{n:Nat}{A V:World}{b0 b1 b2:Nat}{o0 o1 o2:Obj}(_:Below n A V)(_:Row V b0 o0)(_:Row V b1 o1)(_:Row V b2 o2)(p:World->Prop):World->Prop:=fun X=>Below n A X/\Row X b0 o0/\Row X b1 o1/\Row X b2 o2/\p X
abbrev kq3{n:Nat}{A V:World}{b0 b1 b2:Nat}{o0 o1 o2:Obj}(_:Below n A V)(_:Row V b0 o0)(_:Row V b1 o1)(_:Row V b2 o2):World->Prop:=fun X=>Below n A X/\Row X b0 o0/\Row X b1 o1/\Row X b2 o2
abbrev kp4{n:Nat}{A V:World}{b0 b1 b2 b3:Nat}{o0 o1 o2 o3:Obj}(_:Below n A V)(_:Row V b0 o0)(_:Row V b1 o1)(_:Row V b2 o2)(_:Row V b3 o3)(p:World->Prop):World->Prop:=fun X=>Below n A X/\Row X b0 o0/\Row X b1 o1/\Row X b2 o2/\Row X b3 o3/\p X
abbrev kq4{n:Nat}{A V:World}{b0 b1 b2 b3:Nat}{o0 o1 o2 o3:Obj}(_:Below n A V)(_:Row V b0 o0)(_:Row V b1 o1)(_:Row V b2 o2)(_:Row V b3 o3):World->Prop:=fun X=>Below n A X/\Row X b0 o0/\Row X b1 o1/\Row X b2 o2/\Row X b3 o3
abbrev kp5{n:Nat}{A V:World}{b0 b1 b2 b3 b4:Nat}{o0 o1 o2 o3 o4:Obj}(_:Below n A V)(_:Row V b0 o0)(_:Row V b1 o1)(_:Row V b2 o2)(_:Row V b3 o3)(_:Row V b4 o4)(p:World->Prop):World->Prop:=fun X=>Below n A X/\Row X b0 o0/\Row X b1 o1/\Row X b2 o2/\Row X b3 o3/\Row X b4 o4/\p X
abbrev kq5{n:Nat}{A V:World}{b0 b1 b2 b3 b4:Nat}{o0 o1 o2 o3 o4:Obj}(_:Below n A V)(_:Row V b0 o0)(_:Row V b1 o1)(_:Row V b2 o2)(_:Row V b3 o3)(_:Row V b4 o4):World->Prop:=fun X=>Below n A X/\Row X b0 o0/\Row X b1 o1/\Row X b2 o2/\Row X b3 o3/\Row X b4 o4
abbrev kp6{n:Nat}{A V:World}{b0 b1 b2 b3 b4 b5:Nat}{o0 o1 o2 o3 o4 o5:Obj}(_:Below n A V)(_:Row V b0 o0)(_:Row V b1 o1)(_:Row V b2 o2)(_:Row V b3 o3)(_:Row V b4 o4)(_:Row V b5 o5)(p:World->Prop):World->Prop:=fun X=>Below n A X/\Row X b0 o0/\Row X b1 o1/\Row X b2 o2/\Row X b3 o3/\Row X b4 o4/\Row X b5 o5/\p X
abbrev kq6{n:Nat}{A V:World}{b0 b1 b2 b3 b4 b5:Nat}{o0 o1 o2 o3 o4 o5:Obj}(_:Below n A V)(_:Row V b0 o0)(_:Row V b1 o1)(_:Row V b2 o2)(_:Row V b3 o3)(_:Row V b4 o4)(_:Row V b5 o5):World->Prop:=fun X=>Below n A X/\Row X b0 o0/\Row X b1 o1/\Row X b2 o2/\Row X b3 o3/\Row X b4 o4/\Row X b5 o5
abbrev kp7{n:Nat}{A V:World}{b0 b1 b2 b3 b4 b5 b6:Nat}{o0 o1 o2 o3 o4 o5 o6:Obj}(_:Below n A V)(_:Row V b0 o0)(_:Row V b1 o1)(_:Row V b2 o2)(_:Row V b3 o3)(_:Row V b4 o4)(_:Row V b5 o5)(_:Row V b6 o6)(p:World->Prop):World->Prop:=fun X=>Below n A X/\Row X b0 o0/\Row X b1 o1/\Row X b2 o2/\Row X b3 o3/\Row X b4 o4/\Row X b5 o5/\Row X b6 o6/\p X
abbrev kq7{n:Nat}{A V:World}{b0 b1 b2 b3 b4 b5 b6:Nat}{o0 o1 o2 o3 o4 o5 o6:Obj}(_:Below n A V)(_:Row V b0 o0)(_:Row V b1 o1)(_:Row V b2 o2)(_:Row V b3 o3)(_:Row V b4 o4)(_:Row V b5 o5)(_:Row V b6 o6):World->Prop:=fun X=>Below n A X/\Row X b0 o0/\Row X b1 o1/\Row X b2 o2/\Row X b3 o3/\Row X b4 o4/\Row X b5 o5/\Row X b6 o6
abbrev kp8{n:Nat}{A V:World}{b0 b1 b2 b3 b4 b5 b6 b7:Nat}{o0 o1 o2 o3 o4 o5 o6 o7:Obj}(_:Below n A V)(_:Row V b0 o0)(_:Row V b1 o1)(_:Row V b2 o2)(_:Row V b3 o3)(_:Row V b4 o4)(_:Row V b5 o5)(_:Row V b6 o6)(_:Row V b7 o7)(p:World->Prop):World->Prop:=fun X=>Below n A X/\Row X b0 o0/\Row X b1 o1/\Row X b2 o2/\Row X b3 o3/\Row X b4 o4/\Row X b5 o5/\Row X b6 o6/\Row X b7 o7/\p X
abbrev kq8{n:Nat}{A V:World}{b0 b1 b2 b3 b4 b5 b6 b7:Nat}{o0 o1 o2 o3 o4 o5 o6 o7:Obj}(_:Below n A V)(_:Row V b0 o0)(_:Row V b1 o1)(_:Row V b2 o2)(_:Row V b3 o3)(_:Row V b4 o4)(_:Row V b5 o5)(_:Row V b6 o6)(_:Row V b7 o7):World->Prop:=fun X=>Below n A X/\Row X b0 o0/\Row X b1 o1/\Row X b2 o2/\Row X b3 o3/\Row X b4 o4/\Row X b5 o5/\Row X b6 o6/\Row X b7 o7
abbrev kp9{n:Nat}{A V:World}{b0 b1 b2 b3 b4 b5 b6 b7 b8:Nat}{o0 o1 o2 o3 o4 o5 o6 o7 o8:Obj}(_:Below n A V)(_:Row V b0 o0)(_:Row V b1 o1)(_:Row V b2 o2)(_:Row V b3 o3)(_:Row V b4 o4)(_:Row V b5 o5)(_:Row V b6 o6)(_:Row V b7 o7)(_:Row V b8 o8)(p:World->Prop):World->Prop:=fun X=>Below n A X/\Row X b0 o0/\Row X b1 o1/\Row X b2 o2/\Row X b3 o3/\Row X b4 o4/\Row X b5 o5/\Row X b6 o6/\Row X b7 o7/\Row X b8 o8/\p X
abbrev kq9{n:Nat}{A V:World}{b0 b1 b2 b3 b4 b5 b6 b7 b8:Nat}{o0 o1 o2 o3 o4 o5 o6 o7 o8:Obj}(_:Below n A V)(_:Row V b0 o0)(_:Row V b1 o1)(_:Row V b2 o2)(_:Row V b3 o3)(_:Row V b4 o4)(_:Row V b5 o5)(_:Row V b6 o6)(_:Row V b7 o7)(_:Row V b8 o8):World->Prop:=fun X=>Below n A X/\Row X b0 o0/\Row X b1 o1/\Row X b2 o2/\Row X b3 o3/\Row X b4 o4/\Row X b5 o5/\Row X b6 o6/\Row X b7 o7/\Row X b8 o8
theorem Row.below{W W':World}{b:Nat}{o:Obj}(h:Row W b o)(hb:Below W.heap.size W W'):Row W' b o:=⟨AG h.1 hb.size,(hb.block b h.1).trans h.2⟩
abbrev Ae:=@Row.below
theorem qp(w:World)(o:Obj):Row (w.alloc o) w.heap.size o:=⟨by simp,heap_alloc_new _ _⟩
theorem Row.alloc{W:World}{b:Nat}{o:Obj}(h:Row W b o)(o':Obj):Row (W.alloc o') b o:=h.below ((Au _ _).alloc (Am _) o')
abbrev AN:=@Row.alloc
theorem Wk.alloc{W:World}{p:Nat}(h:Wk W p)(o':Obj):Wk (W.alloc o') p:=h.below ((Au _ _).alloc (Am _) o')
def SOk(z:Int)(w:World)(e:Ending)(w':World):Prop:=e=.returned (.string (S z))/\Aa w w'
theorem qK(q:Rat)(h:QDig 200 q)(w:World)(he:Env w):Calls prog 36 #[Q q] w (qa true w):=by
 have i0:Is ⟨#[48]⟩ 0:=yE;have f0:Fits 0:=qy;have hn:=qq q.num;have hd:=qq (q.den:Int);have fn:Fits q.num:=h.1;have fd:Fits (q.den:Int):=h.2;have V1:Hid (ks (S q.num).data.toList=true):=hid (hn.valid fn);have V2:Hid (ks (S (q.den:Int)).data.toList=true):=hid (hd.valid fd);have C:Hid (kp (q.den:Int) 0=1):=hid (qaq (den_pos q));have G:Hid (((q.num.natAbs.gcd (q.den:Int).natAbs:Nat):Int)=1):=hid (by rw[va8];rfl);have hB:=Ab w;unfold Q;generalize S q.num=sn at *;generalize S (q.den:Int)=sd at *;have hr:=qp w (.cells #[.string sn,.string sd] 23);replace hB:=hB.alloc (Am _) (.cells #[.string sn,.string sd] 23);go_enter func36,ntmps36;go_wp2_with fail;generalize w.alloc (.cells #[.string sn,.string sd] 23)=W0 at *;refine(yao V1 (hn.str fn) _).mono ?_;rintro e W⟨rfl,hb⟩;replace hB:=Em hB hb;replace hr:=hr.below hb;obtain⟨c1,c2,_,_⟩:=zb hr.2;clear hb;go_wp2_with fail;refine(yao V2 (hd.str fd) _).mono ?_;rintro e W⟨rfl,hb⟩;replace hB:=Em hB hb;replace hr:=hr.below hb;obtain⟨c1,c2,_,_⟩:=zb hr.2;clear hb;go_wp2_with fail;refine(qcA hd i0 C fd f0 _).mono ?_;rintro e W⟨rfl,hb⟩;replace hB:=Em hB hb;replace hr:=hr.below hb;obtain⟨c1,c2,_,_⟩:=zb hr.2;clear hb;go_wp2_with fail;refine(qcZ hn hd G fn fd _ (he.below hB)).mono ?_
 rintro e W⟨rfl,hb⟩;replace hB:=Em hB hb;replace hr:=hr.below hb;obtain⟨c1,c2,_,_⟩:=zb hr.2;clear hb;rw[vcw];go_wp2;refine bodyPost_ret (v:=.bool true) ?res rfl ⟨rfl,hB⟩
 case res=>simp[results,f36,go_sem]
theorem ybl(w:World):Calls prog 36 #[.agg #[.string ⟨#[]⟩,.string ⟨#[]⟩]] w (qa false w):=by
 have V:Hid (ks (⟨#[]⟩:ByteArray).data.toList=false):=hid dd;have hB:=Ab w;replace hB:=hB.alloc (Am _) oR0;go_enter func36,ntmps36;go_wp2_with fail;refine(yao V (by unfold Str;decide) _).mono ?_;rintro e W⟨rfl,hb⟩;replace hB:=Em hB hb;clear hb;go_wp2;refine bodyPost_ret (v:=.bool false) ?res rfl ⟨rfl,hB⟩
 case res=>simp[results,f36,go_sem]
theorem wdo(p:Nat)(F:FuncId)(a b:ByteArray)(z:Int)(w:World)(eg:∀ args w,(callFunc F args).run prog w=.ok (.enter F args) w)(hw:Wk w p)
  (h:Calls prog F #[.string a,.string b] w (vX z w)) :
  Calls prog 188 #[.pointer (some ⟨p,0,none⟩),.func (.func F) #[] #[],.string a,.string b] w (SOk z w):=by
 obtain⟨c0,f0⟩:=vq hw.2;go_enter func188,ntmps188;go_wp2_with (go_at_fn F;refine h.mono ?_;rintro e W1⟨rfl,hb⟩;have hw1:=hw.below hb;obtain⟨c1,f1⟩:=vq hw1.2;have hs:=zQ hw1.2);refine bodyPost_ret (v:=.string (S z)) ?res rfl ⟨rfl,hb⟩
 case res=>simp[results,f188,go_sem]
theorem qbL{a b:ByteArray}{x y v:Int}(ha:Is a x)(hb:Is b y)(hv:Hid (x/y=v))(hx:Fits x)(hy:Fits y)(hy0:Hid (y≠0))(w:World)(he:Env w) :
  Calls prog 214 #[.string a,.string b] w (vX v w):=by
 go_enter func214,ntmps214;go_wp2_with fail;refine(ycJ ha hb hv (hid rfl) hx hy hy0 _ he).mono ?_;rintro e W⟨rfl,hb⟩;go_wp2;refine bodyPost_ret (v:=.tuple #[.string (S v),.int .i64 0]) ?res rfl ⟨rfl,hb⟩
 case res=>simp[results,f214,go_sem]
theorem vao(p:Nat){a b:ByteArray}{x y v:Int}(ha:Is a x)(hb:Is b y)(hv:Hid (x/y=v))(hx:Fits x)(hy:Fits y)(hy0:Hid (y≠0))(w:World)(he:Env w)(hw:Wk w p) :
  Calls prog 189 #[.pointer (some ⟨p,0,none⟩),.string a,.string b] w (SOk v w):=by
 have hmf:∀(fn:Fn) (first cap:Array Value) (w:World),(Instr.makeFunc fn first cap).run prog w=.ok (.func fn first cap) w:=fun _ _ _ _=>rfl
 have eg:∀ args w,(callFunc 214 args).run prog w=.ok (.enter 214 args) w:=enters_of func214 kr9 rfl;have H:=wdo p _ a b v w eg hw (qbL ha hb hv hx hy hy0 w he);go_enter func189,ntmps189;go_wp2_with fail;refine H.mono ?_;rintro e W⟨rfl,hb⟩;go_wp2;refine bodyPost_ret (v:=.string (S v)) ?res rfl ⟨rfl,hb⟩
 case res=>simp[results,f189,go_sem]
def QOk(q:Rat)(w:World)(e:Ending)(w':World):Prop:=e=.returned (.tuple #[Q q,.int .i64 0])/\Aa w w'
theorem jaT{n d:Int}(hd:d≠0):((n.natAbs.gcd d.natAbs:Nat):Int)≠0:=by
 have:=Nat.gcd_pos_of_pos_right n.natAbs (show 0<d.natAbs by omega);omega
theorem ybc(p:Nat){a b:ByteArray}{n d:Int}(ha:Is a n)(hb:Is b d)(hn:Fits n)(hd:Fits d)(hd0:0<d)(w:World)(he:Env w)(hw:Wk w p) :
  Calls prog 159 #[.pointer (some ⟨p,0,none⟩),.string a,.string b] w (QOk (Rat.divInt n d) w):=by
 have i0:Is ⟨#[48]⟩ 0:=yE;have f0:Fits 0:=qy;have eg:∀ args w,(callFunc 90 args).run prog w=.ok (.enter 90 args) w:=enters_of func90 kr9 rfl;have nz:(b.toList==[48])=false:=by rw[hb.eq];exact kaA oo
 have C:Hid (kp d 0=1):=hid (qaq hd0);obtain⟨g,hg⟩:∃ g:Int,g=((n.natAbs.gcd d.natAbs:Nat):Int):=⟨_,rfl⟩
 have G:=hid hg.symm;have fg:Fits g:=by rw[hg];exact vak hn hd
 have g0:Hid (g≠0):=hid (by rw[hg];exact jaT oo);have ig:=qq g;obtain⟨r1,r2⟩:=qF (n:=n) hd0;rw[<- hg]at r1 r2;have R1:=hid r1.symm;have R2:=hid r2.symm;clear r1 r2 hg hd0;have hr:=qp w oR0;have hne:p≠w.heap.size:=by have:=hw.1;omega
 replace hw:=hw.alloc oR0;obtain⟨c0,fz0⟩:=vq hw.2;have hB:=(Au w.heap.size w).alloc (Am _) oR0;unfold QOk Q;generalize Rat.divInt n d=q at *;go_enter func159,ntmps159;go_wp2_with fail;refine(qcA hb i0 C hd f0 _).mono ?_;rintro e W⟨rfl,h1⟩;replace hB:=Em hB h1;replace hr:=hr.below h1;have hw1:=hw.below h1;clear h1;go_wp2_with fail;refine(wdo p _ a b g _ eg hw1 (qcZ ha hb G hn hd _ (he.below hB))).mono ?_;rintro e W2⟨rfl,h1⟩;replace hB:=Em hB h1;replace hr:=hr.below h1;have hw2:=hw1.below h1;clear h1 hw1;go_wp2_with fail;refine(vao p ha ig R1 hn fg g0 _ (he.below hB) hw2).mono ?_;rintro e W3⟨rfl,h1⟩;replace hB:=Em hB h1;replace hr:=hr.below h1;have hw3:=hw2.below h1;clear h1 hw2;go_wp2_with fail;refine(vao p hb ig R2 hd fg g0 _ (he.below hB) hw3).mono ?_;rintro e W4⟨rfl,h1⟩;replace hB:=Em hB h1;replace hr:=hr.below h1;have hw4:=(hw3.below h1).alloc (oR q);have hn4:=qp W4 (oR q);replace hr:=hr.alloc (oR q);replace hB:=hB.alloc hB.size (oR q);obtain⟨c4,f4⟩:=vq hw4.2;obtain⟨c5,c6,f5,f6⟩:=zb hr.2;obtain⟨c7,c8,f7,f8⟩:=zb hn4.2;have hst:=jq hr.2 (.string (S q.num)) (.string (S (q.den:Int)));obtain⟨g1,g2,_,_⟩:=zb hst;have hBs:=(hB.setCell (p:=⟨w.heap.size,0,none⟩) (by simp) (.string (S q.num))).setCell (p:=⟨w.heap.size,1,none⟩) (by simp) (.string (S (q.den:Int)))
 clear h1 hw3;go_wp2;refine bodyPost_ret (v:=.tuple #[Ac q,.int .i64 0]) ?res rfl ⟨rfl,hBs⟩
 case res=>simp[results,f159,go_sem,g1,g2]
theorem kbc(p:Nat){a b:ByteArray}{n d:Int}(ha:Is a n)(hb:Is b d)(hn:Fits n)(hd:Fits d)(hd0:d<0)(w:World)(he:Env w)(hw:Wk w p) :
  Calls prog 159 #[.pointer (some ⟨p,0,none⟩),.string a,.string b] w (QOk (Rat.divInt n d) w):=by
 have i0:Is ⟨#[48]⟩ 0:=yE;have f0:Fits 0:=qy;have eg:∀ args w,(callFunc 90 args).run prog w=.ok (.enter 90 args) w:=enters_of func90 kr9 rfl;have es:∀ args w,(callFunc 184 args).run prog w=.ok (.enter 184 args) w:=enters_of func184 kr9 rfl;have nz:(b.toList==[48])=false:=by rw[hb.eq];exact kaA oo
 have C:Hid (kp d 0 = -1):=hid (jbR hd0);obtain⟨n',hn'⟩:∃ n',n'=0-n:=⟨_,rfl⟩
 obtain⟨d',hd'⟩:∃ d',d'=0-d:=⟨_,rfl⟩
 have N1:=hid hn'.symm;have N2:=hid hd'.symm;have fn':Fits n':=by rw[hn'];unfold Fits at *;omega
 have fd':Fits d':=by rw[hd'];unfold Fits at *;omega
 have e:Rat.divInt n d=Rat.divInt n' d':=by rw[<- jaq,hn',hd',Int.zero_sub,Int.zero_sub]
 rw[e];have hdp:0<d':=oo
 obtain⟨g,hg⟩:∃ g:Int,g=((n'.natAbs.gcd d'.natAbs:Nat):Int):=⟨_,rfl⟩
 have G:=hid hg.symm;have fg:Fits g:=by rw[hg];exact vak fn' fd'
 have g0:Hid (g≠0):=hid (by rw[hg];exact jaT oo);have ig:=qq g;obtain⟨r1,r2⟩:=qF (n:=n') hdp;rw[<- hg]at r1 r2;have R1:=hid r1.symm;have R2:=hid r2.symm;have ha':=qq n';have hb':=qq d';clear r1 r2 hg hd0 hdp e hn' hd';have hr:=qp w oR0;have hne:p≠w.heap.size:=by have:=hw.1;omega
 replace hw:=hw.alloc oR0;obtain⟨c0,fz0⟩:=vq hw.2;have hB:=(Au w.heap.size w).alloc (Am _) oR0;unfold QOk Q;generalize Rat.divInt n' d'=q at *;go_enter func159,ntmps159;go_wp2_with fail;refine(qcA hb i0 C hd f0 _).mono ?_;rintro e W⟨rfl,h1⟩;replace hB:=Em hB h1;replace hr:=hr.below h1;have hw1:=hw.below h1;clear h1;go_wp2_with fail;refine(wdo p _ _ a n' _ es hw1 (qda i0 ha N1 f0 hn fn' _ (he.below hB))).mono ?_;rintro e W2⟨rfl,h1⟩;replace hB:=Em hB h1;replace hr:=hr.below h1;have hw2:=hw1.below h1;clear h1 hw1;go_wp2_with fail;refine(wdo p _ _ b d' _ es hw2 (qda i0 hb N2 f0 hd fd' _ (he.below hB))).mono ?_;rintro e W2⟨rfl,h1⟩;replace hB:=Em hB h1;replace hr:=hr.below h1;have hw3:=hw2.below h1;clear h1 hw2;go_wp2_with fail;refine(wdo p _ _ _ g _ eg hw3 (qcZ ha' hb' G fn' fd' _ (he.below hB))).mono ?_;rintro e W2⟨rfl,h1⟩;replace hB:=Em hB h1;replace hr:=hr.below h1;have hw2:=hw3.below h1;clear h1 hw3;go_wp2_with fail;refine(vao p ha' ig R1 fn' fg g0 _ (he.below hB) hw2).mono ?_;rintro e W3⟨rfl,h1⟩;replace hB:=Em hB h1;replace hr:=hr.below h1;have hw3:=hw2.below h1;clear h1 hw2;go_wp2_with fail;refine(vao p hb' ig R2 fd' fg g0 _ (he.below hB) hw3).mono ?_;rintro e W4⟨rfl,h1⟩;replace hB:=Em hB h1;replace hr:=hr.below h1;have hw4:=(hw3.below h1).alloc (oR q)
 have hn4:=qp W4 (oR q);replace hr:=hr.alloc (oR q);replace hB:=hB.alloc hB.size (oR q);obtain⟨c4,f4⟩:=vq hw4.2;obtain⟨c5,c6,f5,f6⟩:=zb hr.2;obtain⟨c7,c8,f7,f8⟩:=zb hn4.2;have hst:=jq hr.2 (.string (S q.num)) (.string (S (q.den:Int)));obtain⟨g1,g2,_,_⟩:=zb hst;have hBs:=(hB.setCell (p:=⟨w.heap.size,0,none⟩) (by simp) (.string (S q.num))).setCell (p:=⟨w.heap.size,1,none⟩) (by simp) (.string (S (q.den:Int)));clear h1 hw3;go_wp2;refine bodyPost_ret (v:=.tuple #[Ac q,.int .i64 0]) ?res rfl ⟨rfl,hBs⟩
 case res=>simp[results,f159,go_sem,g1,g2]
theorem kby(p:Nat){a b:ByteArray}{n d:Int}(ha:Is a n)(hb:Is b d)(hn:Fits n)(hd:Fits d)(hd0:d≠0)(w:World)(he:Env w)(hw:Wk w p) :
  Calls prog 159 #[.pointer (some ⟨p,0,none⟩),.string a,.string b] w (QOk (Rat.divInt n d) w):=by
 rcases Int.lt_or_gt_of_ne hd0 with h|h
 ·exact kbc p ha hb hn hd h w he hw
 ·exact ybc p ha hb hn hd h w he hw
def Two(W:World)(s:Nat)(a b:Rat):Prop:=Row W s (.cells #[.string (S a.num),.string (S (a.den:Int)),.string (S b.num),.string (S (b.den:Int))] 23)
def ja1(w:World)(e:Ending)(w':World):Prop:=e=.returned (.tuple #[])/\Aa w w'
theorem vbo(p s:Nat)(a b:Rat)(ha:QDig 200 a)(hb:QDig 200 b)(w:World)(he:Env w)(hw:Wk w p)(hs:Two w s a b) :
  Calls prog 157 #[.pointer (some ⟨p,0,none⟩),.slice (some ⟨s,0,none⟩) 2 2] w (ja1 w):=by
 go_enter func157,ntmps157;go_wp2_with fail;go_loopw[8] (fun iv wr=>∃(k:Nat),k<=2/\iv=.int .i64 (k:Int)/\Wk wr p/\Two wr s a b/\Aa w wr) (fun iv _=>2-(RowKit.intOf iv).toNat)
 case atStart=>exact⟨0,oo,rfl,hw,hs,Au _ _⟩
 case round =>
  obtain⟨k,hk,rfl,hw',hs',hB'⟩:=hrel;have t0:=cell_of_row _ _ 0 _ _ _ hs'.2;have t1:=cell_of_row _ _ 1 _ _ _ hs'.2;have t2:=cell_of_row _ _ 2 _ _ _ hs'.2;have t3:=cell_of_row _ _ 3 _ _ _ hs'.2;simp only[BU,List.getElem?_cons_zero,List.getElem?_cons_succ]at t0 t1 t2 t3;rcases(show k=0\/k=1\/k=2 by omega)with rfl|rfl|rfl
  ·have hc:=hw'.alloc (oR a);have hsc:=hs'.alloc (oR a);have hBc:=hB'.alloc hB'.size (oR a);obtain⟨d0,g0⟩:=vq hc.2;go_wp2_with (go_at_call 36;refine(qK a ha _ (he.below hBc)).mono ?_;rintro e W1⟨rfl,h1⟩;have hw1:=hc.below h1;have hs1:=Ae hsc h1;obtain⟨d1,g1⟩:=vq hw1.2;have hsame:=zQ hw1.2);exact⟨⟨1,oo,rfl,hw1,hs1,Em hBc h1⟩,by simp[RowKit.intOf]⟩
  ·have hc:=hw'.alloc (oR b);have hsc:=hs'.alloc (oR b);have hBc:=hB'.alloc hB'.size (oR b);obtain⟨d0,g0⟩:=vq hc.2;go_wp2_with (go_at_call 36;refine(qK b hb _ (he.below hBc)).mono ?_;rintro e W1⟨rfl,h1⟩;have hw1:=hc.below h1;have hs1:=Ae hsc h1;obtain⟨d1,g1⟩:=vq hw1.2;have hsame:=zQ hw1.2);exact⟨⟨2,oo,rfl,hw1,hs1,Em hBc h1⟩,by simp[RowKit.intOf]⟩
  ·go_wp2;go_end0;exact⟨rfl,hB'⟩
def One(W:World)(s:Nat)(a:Rat):Prop:=Row W s (oR a)
theorem Row.under{n:Nat}{W W':World}{b:Nat}{o:Obj}(h:Row W b o)(hb:b<n)(hB:Below n W W'):Row W' b o:=⟨AG h.1 hB.size,(hB.block b hb).trans h.2⟩
abbrev WB(W:World)(p:Nat)(f:Bool):Prop:=Row W p (.cells #[.bool f] 174)
def qc0(z:Int)(w:World)(e:Ending)(w':World):Prop:=e=.returned (.tuple #[.string ⟨(jn z).toArray⟩,.int .i64 (qH z)])/\Aa w w'
structure DoS(z:Int)(f f':Bool)(s:ByteArray):Prop where
 ok:f'=false->f=false/\Fits z/\s=S z
 no:f'=true->f=true\/¬ Fits z
def jcw(z:Int)(p:Nat)(f:Bool)(w:World)(e:Ending)(w':World):Prop:=∃ s f',e=.returned (.string s)/\WB w' p f'/\Below p w w'/\DoS z f f' s
theorem jda(p:Nat)(F:FuncId)(a b:ByteArray)(z:Int)(f:Bool)(w:World)(eg:∀ args w,(callFunc F args).run prog w=.ok (.enter F args) w)(hw:WB w p f)
  (h:f=false->Calls prog F #[.string a,.string b] w (qc0 z w)) :
  Calls prog 188 #[.pointer (some ⟨p,0,none⟩),.func (.func F) #[] #[],.string a,.string b] w (jcw z p f w):=by
 obtain⟨c0,f0⟩:=vq hw.2;have hp:=hw.1
 cases f with
 | true =>
  go_enter func188,ntmps188;go_wp2;go_ret;exact⟨_,true,rfl,hw,Au _ _,⟨fun h=>(by cases h),fun _=>.inl rfl⟩⟩
 | false =>
  have H:=h rfl;clear h;unfold qc0 at H;by_cases hz:Fits z
  ·rw[qQ hz,jJ hz]at H;go_enter func188,ntmps188;go_wp2_with (go_at_fn F;refine H.mono ?_;rintro e W1⟨rfl,hb⟩;have hw1:=Ae hw hb;obtain⟨c1,f1⟩:=vq hw1.2;have hs:=zQ hw1.2);refine bodyPost_ret (v:=.string (S z)) ?res rfl ⟨S z,false,rfl,hw1,hb.mono oo,⟨fun _=>⟨rfl,hz,rfl⟩,fun h=>(by cases h)⟩⟩
   case res=>simp[results,f188,go_sem]
  ·rw[yaY hz,vba hz]at H;go_enter func188,ntmps188;go_wp2_with (go_at_fn F;refine H.mono ?_;rintro e W1⟨rfl,hb⟩;have hw1:=Ae hw hb;obtain⟨c1,f1⟩:=vq hw1.2);refine bodyPost_ret (v:=.string ⟨#[]⟩) ?res rfl ⟨⟨#[]⟩,true,rfl,⟨by simpa using hw1.1,by simp[World.setCell,BN,hw1.2]⟩,(hb.mono oo).setCell (by simp) _,⟨fun h=>(by cases h),fun _=>.inr hz⟩⟩
   case res=>simp[results,f188,go_sem]
theorem zbp(p:Nat){a b:ByteArray}{x y v:Int}(f:Bool)(hv:Hid (x*y=v))(w:World)(hw:WB w p f)(h:f=false->Is a x/\Is b y/\Fits x/\Fits y/\Env w) :
  Calls prog 158 #[.pointer (some ⟨p,0,none⟩),.string a,.string b] w (jcw v p f w):=by
 have eg:∀ args w,(callFunc 168 args).run prog w=.ok (.enter 168 args) w:=enters_of func168 kr9 rfl;have H:=jda p _ a b v f w eg hw (fun hf=>by
  obtain⟨ha,hb,hx,hy,he⟩:=h hf;have:=jcu a b x y w he.tab ha hb hx hy (ha.str hx) (hb.str hy);rw[hv.out]at this;exact this)
 go_enter func158,ntmps158;go_wp2_with fail;refine H.mono ?_;rintro e W⟨s,f',rfl,h1,h2,h3⟩;go_wp2;refine bodyPost_ret (v:=.string s) ?res rfl ⟨s,f',rfl,h1,h2,h3⟩
 case res=>simp[results,f158,go_sem]
def yc8(w:World)(e:Ending)(w':World):Prop:=e=.returned (.tuple #[.agg #[.string ⟨#[]⟩,.string ⟨#[]⟩],.int .i64 40])/\Aa w w'
def Out(c:Prop)(q:Rat)(u v:ByteArray)(z:Int):Prop:=(c/\u=S q.num/\v=S (q.den:Int)/\z=0)\/(¬ c/\u=⟨#[]⟩/\v=⟨#[]⟩/\z=40)
def QRes(c:Prop)(q:Rat)(w:World)(e:Ending)(w':World):Prop:=∃ u v z,Out c q u v z/\e=.returned (.tuple #[.agg #[.string u,.string v],.int .i64 z])/\Aa w w'
theorem QRes.ok{c:Prop}{q:Rat}{w w':World}{e:Ending}(h:QRes c q w e w')(hc:c):QOk q w e w':=by
 obtain⟨u,v,z,⟨_,rfl,rfl,rfl⟩|⟨h,_⟩,rfl,hB⟩:=h
 ·exact⟨rfl,hB⟩
 ·exact absurd hc h
theorem QRes.of_ok{c:Prop}{q:Rat}{w w':World}{e:Ending}(hc:c)(h:QOk q w e w'):QRes c q w e w':=⟨_,_,_,.inl ⟨hc,rfl,rfl,rfl⟩,h.1,h.2⟩
theorem QRes.of_err{c:Prop}{q:Rat}{w w':World}{e:Ending}(hc:¬ c)(h:yc8 w e w'):QRes c q w e w':=⟨_,_,_,.inr ⟨hc,rfl,rfl,rfl⟩,h.1,h.2⟩
theorem do2{n d:Int}{c:Prop}{f1 f2:Bool}{s1 s2:ByteArray}{q:Rat}(h1:DoS n false f1 s1)(h2:DoS d f1 f2 s2)(hc:c↔Fits n/\Fits d/\d≠0)(hq:d≠0->Rat.divInt n d=q) :
  (f2=false->Fits n/\Fits d/\s1=S n/\s2=S d/\(c↔d≠0)/\(d≠0->Rat.divInt n d=q))/\(f2=true->¬ c):=by
 refine⟨fun h => ?_,fun h k => ?_⟩
 ·obtain⟨k1,k2,k3⟩:=h2.ok h;obtain⟨_,k4,k5⟩:=h1.ok k1;exact⟨k4,k2,k5,k3,⟨fun k=>(hc.1 k).2.2,fun k=>hc.2 ⟨k4,k2,k⟩⟩,hq⟩
 ·obtain⟨k1,k2,_⟩:=hc.1 k;rcases h2.no h with h|h
  ·rcases h1.no h with h|h
   ·cases h
   ·exact h k1
  ·exact h k2
theorem kaw(p:Nat)(a b:ByteArray)(f:Bool)(w:World)(hw:WB w p f)(h:f=false->b=⟨#[48]⟩):Calls prog 159 #[.pointer (some ⟨p,0,none⟩),.string a,.string b] w (yc8 w):=by
 have hne:p≠w.heap.size:=by have:=hw.1;omega
 replace hw:=hw.alloc oR0;obtain⟨c0,f0⟩:=vq hw.2;have hr:=qp w oR0;have hB:=(Au w.heap.size w).alloc (Am _) oR0;obtain⟨c5,c6,_,_⟩:=zb hr.2
 cases f with
 | true =>
  go_enter func159,ntmps159;go_wp2;refine bodyPost_ret (v:=.tuple #[.agg #[.string ⟨#[]⟩,.string ⟨#[]⟩],.int .i64 40]) ?res rfl ⟨rfl,hB⟩
  case res=>simp[results,f159,go_sem,c5,c6]
 | false =>
  obtain rfl:=h rfl;go_enter func159,ntmps159;go_wp2;refine bodyPost_ret (v:=.tuple #[.agg #[.string ⟨#[]⟩,.string ⟨#[]⟩],.int .i64 40]) ?res rfl ⟨rfl,hB⟩
  case res=>simp[results,f159,go_sem,c5,c6]
theorem jaK(p:Nat){a b:ByteArray}{n d:Int}{c:Prop}{q:Rat}(f:Bool)(w:World)(he:Env w)(hw:WB w p f)(h:f=false->Fits n/\Fits d/\a=S n/\b=S d/\(c↔d≠0)/\(d≠0->Rat.divInt n d=q))(h':f=true->¬ c) :
  Calls prog 159 #[.pointer (some ⟨p,0,none⟩),.string a,.string b] w (QRes c q w):=by
 cases f with
 | true=>exact(kaw p a b true w hw (fun h=>by cases h)).mono fun _ _ k=>.of_err (h' rfl) k
 | false =>
  obtain⟨fn,fd,rfl,rfl,hc,hq⟩:=h rfl;by_cases hd:d=0
  ·subst hd;exact(kaw p _ _ false w hw (fun _=>kbM)).mono fun _ _ k=>.of_err (fun h=>(hc.1 h) rfl) k
  ·rw[<- hq hd];exact(kby p (qq n) (qq d) fn fd hd w he hw).mono fun _ _ k=>.of_ok (hc.2 hd) k
theorem jcY(w:World):Wk (w.alloc (.cells #[.bool false] 174)) w.heap.size:=⟨by simp,heap_alloc_new _ _⟩
theorem zaT(w:World)(o1 o2 o3 o4 o5:Obj):Row (((((w.alloc o1).alloc o2).alloc o3).alloc o4).alloc o5) w.heap.size o1/\Row (((((w.alloc o1).alloc o2).alloc o3).alloc o4).alloc o5) (w.heap.size+1) o2
  /\ Row (((((w.alloc o1).alloc o2).alloc o3).alloc o4).alloc o5) (w.heap.size+1+1) o3/\Row (((((w.alloc o1).alloc o2).alloc o3).alloc o4).alloc o5) (w.heap.size+1+1+1) o4
  /\ Row (((((w.alloc o1).alloc o2).alloc o3).alloc o4).alloc o5) (w.heap.size+1+1+1+1) o5/\Aa w (((((w.alloc o1).alloc o2).alloc o3).alloc o4).alloc o5):=by
 have e1:(w.alloc o1).heap.size=w.heap.size+1:=by simp
 have e2:((w.alloc o1).alloc o2).heap.size=w.heap.size+1+1:=by simp
 have e3:(((w.alloc o1).alloc o2).alloc o3).heap.size=w.heap.size+1+1+1:=by simp
 have e4:((((w.alloc o1).alloc o2).alloc o3).alloc o4).heap.size=w.heap.size+1+1+1+1:=by simp
 refine⟨((((qp w o1).alloc o2).alloc o3).alloc o4).alloc o5,?_,?_,?_,?_,?_⟩
 ·rw[<- e1];exact(((qp (w.alloc o1) o2).alloc o3).alloc o4).alloc o5
 ·rw[<- e2];exact((qp ((w.alloc o1).alloc o2) o3).alloc o4).alloc o5
 ·rw[<- e3];exact(qp (((w.alloc o1).alloc o2).alloc o3) o4).alloc o5
 ·rw[<- e4];exact qp ((((w.alloc o1).alloc o2).alloc o3).alloc o4) o5
 ·have h:=Au w.heap.size w;exact((((h.alloc (Am _) o1).alloc oo o2).alloc oo o3).alloc oo o4).alloc oo o5
theorem kb2{a b:ByteArray}{n d:Int}(ha:Is a n)(hb:Is b d)(hn:Fits n)(hd:Fits d)(hd0:d≠0)(w:World)(he:Env w) :
  Calls prog 134 #[.string a,.string b] w (QOk (Rat.divInt n d) w):=by
 have V1:Hid (ks a.data.toList=true):=hid (ha.valid hn);have V2:Hid (ks b.data.toList=true):=hid (hb.valid hd);have hr:=qp w oR0;have hB:=(Au w.heap.size w).alloc (Am _) oR0;go_enter func134,ntmps134;go_wp2_with fail;refine(yao V1 (ha.str hn) _).mono ?_;rintro e W⟨rfl,h1⟩;replace hB:=Em hB h1;replace hr:=hr.below h1;clear h1;go_wp2_with fail;refine(yao V2 (hb.str hd) _).mono ?_;rintro e W⟨rfl,h1⟩;replace hB:=Em hB h1;replace hr:=hr.below h1;clear h1;go_wp2_with fail;refine(kby W.heap.size ha hb hn hd hd0 _ (he.below (hB.alloc hB.size _)) (jcY _)).mono ?_;rintro e W3⟨rfl,h1⟩;replace hB:=(hB.alloc hB.size _).trans (h1.mono (hB.alloc hB.size _).size);replace hr:=(hr.alloc _).below h1;unfold QOk Q;generalize Rat.divInt n d=q at *;obtain⟨c5,c6,f5,f6⟩:=zb hr.2;have hst:=jq hr.2 (.string (S q.num)) (.string (S (q.den:Int)));obtain⟨g1,g2,_,_⟩:=zb hst;have hBs:=(hB.setCell (p:=⟨w.heap.size,0,none⟩) (by simp) (.string (S q.num))).setCell (p:=⟨w.heap.size,1,none⟩) (by simp) (.string (S (q.den:Int)));go_wp2;refine bodyPost_ret (v:=.tuple #[Ac q,.int .i64 0]) ?res rfl ⟨rfl,hBs⟩
 case res=>simp[results,f134,go_sem,g1,g2]
structure MF(a b:Rat):Prop where
 da:QDig 200 a
 db:QDig 200 b
 n:Fits (a.num*b.num)
 d:Fits ((a.den:Int)*(b.den:Int))
structure DF(a b:Rat):Prop where
 da:QDig 200 a
 db:QDig 200 b
 n:Fits (a.num*(b.den:Int))
 d:Fits ((a.den:Int)*b.num)
 b0:b≠0
theorem MF.iff{a b:Rat}(ha:QDig 200 a)(hb:QDig 200 b):MF a b↔Fits (a.num*b.num)/\Fits ((a.den:Int)*(b.den:Int))/\(a.den:Int)*(b.den:Int)≠0 :=
 ⟨fun h=>⟨h.n,h.d,by have:=den_pos a;have:=den_pos b;exact Int.ne_of_gt (BG oo oo)⟩,fun h=>⟨ha,hb,h.1,h.2.1⟩⟩
theorem DF.iff{a b:Rat}(ha:QDig 200 a)(hb:QDig 200 b):DF a b↔Fits (a.num*(b.den:Int))/\Fits ((a.den:Int)*b.num)/\(a.den:Int)*b.num≠0 :=
 ⟨fun h=>⟨h.n,h.d,fun k=>(Int.mul_eq_zero.1 k).elim (fun k=>by have:=den_pos a;omega) (fun k=>h.b0 (Dj.1 k))⟩,fun h=>⟨ha,hb,h.1,h.2.1,fun k=>h.2.2 (by rw[k];simp)⟩⟩
theorem MF.of{j k:Nat}{a b:Rat}(ha:QDig j a)(hb:QDig k b)(hjk:j+k<=200):MF a b:=⟨ha.mono oo,hb.mono oo,(ha.1.mul hb.1).fits oo,(ha.2.mul hb.2).fits oo⟩
abbrev DS:=@MF.of
theorem DF.of{j k:Nat}{a b:Rat}(ha:QDig j a)(hb:QDig k b)(hjk:j+k<=200)(hb0:b≠0):DF a b:=⟨ha.mono oo,hb.mono oo,(ha.1.mul hb.2).fits oo,(ha.2.mul hb.1).fits oo,hb0⟩
theorem zc7{a b:Rat}(ha':QDig 200 a)(hb':QDig 200 b)(w:World)(he:Env w) :
  Calls prog 112 #[Q a,Q b] w (QRes (MF a b) (a*b) w):=by
 obtain⟨n,hn⟩:∃ n,n=a.num*b.num:=⟨_,rfl⟩
 obtain⟨d,hd⟩:∃ d,d=(a.den:Int)*(b.den:Int):=⟨_,rfl⟩
 have hc:MF a b↔Fits n/\Fits d/\d≠0:=by rw[hn,hd];exact MF.iff ha' hb'
 have hq:d≠0->Rat.divInt n d=a*b:=fun _=>by rw[hn,hd];exact kam a b
 have N1:=hid hn.symm;have N2:=hid hd.symm;have ia:=qq a.num;have ib:=qq b.num;have ja:=qq (a.den:Int);have jb:=qq (b.den:Int);have fa:Fits a.num:=ha'.1;have fb:Fits b.num:=hb'.1;have ga:Fits (a.den:Int):=ha'.2;have gb:Fits (b.den:Int):=hb'.2;obtain⟨r1,r2,r3,r4,r5,hB⟩:=zaT w (oR a) (oR b) oR0 (.cells #[.bool false] 174) (.cells #[.string (S a.num),.string (S (a.den:Int)),.string (S b.num),.string (S (b.den:Int))] 23);show Calls prog 112 #[Ac a,Ac b] w _;clear hn hd;go_enter func112,ntmps112;go_wp2_with fail;generalize (((((w.alloc (oR a)).alloc (oR b)).alloc oR0).alloc (.cells #[.bool false] 174)).alloc (.cells #[.string (S a.num),.string (S (a.den:Int)),.string (S b.num),.string (S (b.den:Int))] 23))=W0 at *;refine(vbo _ _ a b ha' hb' _ (he.below hB) r4 r5).mono ?_;rintro e W⟨rfl,h1⟩;replace hB:=Em hB h1;replace r1:=r1.below h1;replace r2:=r2.below h1;replace r3:=r3.below h1;replace r4:=Ae r4 h1;obtain⟨a1,a2,_,_⟩:=zb r1.2;obtain⟨b1,b2,_,_⟩:=zb r2.2;clear h1 r5;go_wp2_with fail;refine(zbp _ false N1 _ r4 (fun _=>⟨ia,ib,fa,fb,he.below hB⟩)).mono ?_;rintro e W⟨s1,f1,rfl,r4,h1,q1⟩;replace hB:=hB.trans (h1.mono oo);replace r1:=r1.under oo h1
 replace r2:=r2.under oo h1;replace r3:=r3.under oo h1;obtain⟨a1,a2,_,_⟩:=zb r1.2;obtain⟨b1,b2,_,_⟩:=zb r2.2;clear h1;go_wp2_with fail;refine(zbp _ f1 N2 _ r4 (fun _=>⟨ja,jb,ga,gb,he.below hB⟩)).mono ?_;rintro e W⟨s2,f2,rfl,r4,h1,q2⟩;replace hB:=hB.trans (h1.mono oo);replace r3:=r3.under oo h1;obtain⟨g1,g2⟩:=do2 q1 q2 hc hq;clear h1 r1 r2 a1 a2 b1 b2 q1 q2 hc hq;go_wp2_with fail;refine(jaK _ f2 _ (he.below hB) r4 g1 g2).mono ?_;rintro e W⟨u,v,z,ho,rfl,h1⟩;replace hB:=Em hB h1;replace r3:=r3.below h1;obtain⟨x1,x2,x3,x4⟩:=zb r3.2;have hst:=jq r3.2 (.string u) (.string v);obtain⟨g1,g2,_,_⟩:=zb hst;have hBs:=(hB.setCell (p:=⟨w.heap.size+1+1,0,none⟩) (by simp;omega) (.string u)).setCell (p:=⟨w.heap.size+1+1,1,none⟩) (by simp;omega) (.string v);go_wp2;refine bodyPost_ret (v:=.tuple #[.agg #[.string u,.string v],.int .i64 z]) ?res rfl ⟨u,v,z,ho,rfl,hBs⟩
 case res=>simp[results,f112,go_sem,g1,g2]
theorem vc6{a b:Rat}(ha':QDig 200 a)(hb':QDig 200 b)(w:World)(he:Env w) :
  Calls prog 120 #[Q a,Q b] w (QRes (DF a b) (a/b) w):=by
 obtain⟨n,hn⟩:∃ n,n=a.num*(b.den:Int):=⟨_,rfl⟩
 obtain⟨d,hd⟩:∃ d,d=(a.den:Int)*b.num:=⟨_,rfl⟩
 have hc:DF a b↔Fits n/\Fits d/\d≠0:=by rw[hn,hd];exact DF.iff ha' hb'
 have hq:d≠0->Rat.divInt n d=a/b:=fun _=>by rw[hn,hd];exact jaC a b
 have N1:=hid hn.symm;have N2:=hid hd.symm;have ia:=qq a.num;have ib:=qq b.num;have ja:=qq (a.den:Int);have jb:=qq (b.den:Int);have fa:Fits a.num:=ha'.1;have fb:Fits b.num:=hb'.1;have ga:Fits (a.den:Int):=ha'.2;have gb:Fits (b.den:Int):=hb'.2;obtain⟨r1,r2,r3,r4,r5,hB⟩:=zaT w (oR a) (oR b) oR0 (.cells #[.bool false] 174) (.cells #[.string (S a.num),.string (S (a.den:Int)),.string (S b.num),.string (S (b.den:Int))] 23);show Calls prog 120 #[Ac a,Ac b] w _;clear hn hd;go_enter func120,ntmps120;go_wp2_with fail;generalize (((((w.alloc (oR a)).alloc (oR b)).alloc oR0).alloc (.cells #[.bool false] 174)).alloc (.cells #[.string (S a.num),.string (S (a.den:Int)),.string (S b.num),.string (S (b.den:Int))] 23))=W0 at *;refine(vbo _ _ a b ha' hb' _ (he.below hB) r4 r5).mono ?_;rintro e W⟨rfl,h1⟩;replace hB:=Em hB h1;replace r1:=r1.below h1;replace r2:=r2.below h1;replace r3:=r3.below h1;replace r4:=Ae r4 h1;obtain⟨a1,a2,_,_⟩:=zb r1.2;obtain⟨b1,b2,_,_⟩:=zb r2.2;clear h1 r5;go_wp2_with fail;refine(zbp _ false N1 _ r4 (fun _=>⟨ia,jb,fa,gb,he.below hB⟩)).mono ?_;rintro e W⟨s1,f1,rfl,r4,h1,q1⟩;replace hB:=hB.trans (h1.mono oo);replace r1:=r1.under oo h1
 replace r2:=r2.under oo h1;replace r3:=r3.under oo h1;obtain⟨a1,a2,_,_⟩:=zb r1.2;obtain⟨b1,b2,_,_⟩:=zb r2.2;clear h1;go_wp2_with fail;refine(zbp _ f1 N2 _ r4 (fun _=>⟨ja,ib,ga,fb,he.below hB⟩)).mono ?_;rintro e W⟨s2,f2,rfl,r4,h1,q2⟩;replace hB:=hB.trans (h1.mono oo);replace r3:=r3.under oo h1;obtain⟨g1,g2⟩:=do2 q1 q2 hc hq;clear h1 r1 r2 a1 a2 b1 b2 q1 q2 hc hq;go_wp2_with fail;refine(jaK _ f2 _ (he.below hB) r4 g1 g2).mono ?_;rintro e W⟨u,v,z,ho,rfl,h1⟩;replace hB:=Em hB h1;replace r3:=r3.below h1;obtain⟨x1,x2,x3,x4⟩:=zb r3.2;have hst:=jq r3.2 (.string u) (.string v);obtain⟨g1,g2,_,_⟩:=zb hst;have hBs:=(hB.setCell (p:=⟨w.heap.size+1+1,0,none⟩) (by simp;omega) (.string u)).setCell (p:=⟨w.heap.size+1+1,1,none⟩) (by simp;omega) (.string v);go_wp2;refine bodyPost_ret (v:=.tuple #[.agg #[.string u,.string v],.int .i64 z]) ?res rfl ⟨u,v,z,ho,rfl,hBs⟩
 case res=>simp[results,f120,go_sem,g1,g2]
theorem jQ{n:Nat}{w w':World}(h:Below n w.drew w'):Below n w w':=⟨h.os,h.tape,h.output,h.size,h.block⟩
theorem do4{x y n d:Int}{c:Prop}{f1 f2 f3 f4:Bool}{s1 s2 s3 s4:ByteArray}{q:Rat}(h1:DoS x false f1 s1)(h2:DoS y f1 f2 s2)(h3:DoS n f2 f3 s3)(h4:DoS d f3 f4 s4)(hc:c↔Fits x/\Fits y/\Fits n/\Fits d)(d0:d≠0)(hq:Rat.divInt n d=q) :
  (f4=false->Fits n/\Fits d/\s3=S n/\s4=S d/\(c↔d≠0)/\(d≠0->Rat.divInt n d=q))/\(f4=true->¬ c):=by
 refine⟨fun h => ?_,fun h k => ?_⟩
 ·obtain⟨k1,k2,k3⟩:=h4.ok h;obtain⟨k4,k5,k6⟩:=h3.ok k1;obtain⟨k7,k8,_⟩:=h2.ok k4;obtain⟨_,k9,_⟩:=h1.ok k7;exact⟨k5,k2,k6,k3,⟨fun _=>d0,fun _=>hc.2 ⟨k9,k8,k5,k2⟩⟩,fun _=>hq⟩
 ·obtain⟨k1,k2,k3,k4⟩:=hc.1 k;rcases h4.no h with h|h
  ·rcases h3.no h with h|h
   ·rcases h2.no h with h|h
    ·rcases h1.no h with h|h
     ·cases h
     ·exact h k1
    ·exact h k2
   ·exact h k3
  ·exact h k4
theorem kcY(F:FuncId)(eg:∀ args w,(callFunc F args).run prog w=.ok (.enter F args) w){a b:Rat}{x y n d:Int}{q:Rat}{c:Prop}(ha':QDig 200 a)(hb':QDig 200 b)
  (hx:Hid (a.num*(b.den:Int)=x)) (hy:Hid (b.num*(a.den:Int)=y)) (hd:Hid ((a.den:Int)*(b.den:Int)=d)) (hc:c↔Fits x/\Fits y/\Fits n/\Fits d) (d0:d≠0) (E:Rat.divInt n d=q)
  (H:∀ W,Env W->Fits x->Fits y->Calls prog F #[.string (S x),.string (S y)] W (qc0 n W)) (w:World) (he:Env w) :
  Calls prog 156 #[.func (.func F) #[] #[],Q a,Q b] w (QRes c q w):=by
 have ia:=qq a.num;have ib:=qq b.num;have ja:=qq (a.den:Int);have jb:=qq (b.den:Int);have fa:Fits a.num:=ha'.1;have fb:Fits b.num:=hb'.1;have ga:Fits (a.den:Int):=ha'.2;have gb:Fits (b.den:Int):=hb'.2;obtain⟨r1,r2,r3,r4,r5,hB⟩:=zaT w (.cells #[.string (S a.num),.string (S (a.den:Int))] 23) (.cells #[.string (S b.num),.string (S (b.den:Int))] 23) (.cells #[.string ⟨#[]⟩,.string ⟨#[]⟩] 23) (.cells #[.bool false] 174) (.cells #[.string (S a.num),.string (S (a.den:Int)),.string (S b.num),.string (S (b.den:Int))] 23);show Calls prog 156 #[.func (.func F) #[] #[],.agg #[.string (S a.num),.string (S (a.den:Int))],.agg #[.string (S b.num),.string (S (b.den:Int))]] w _;go_enter func156,ntmps156;go_wp2_with fail;generalize (((((w.alloc (.cells #[.string (S a.num),.string (S (a.den:Int))] 23)).alloc (.cells #[.string (S b.num),.string (S (b.den:Int))] 23)).alloc (.cells #[.string ⟨#[]⟩,.string ⟨#[]⟩] 23)).alloc (.cells #[.bool false] 174)).alloc (.cells #[.string (S a.num),.string (S (a.den:Int)),.string (S b.num),.string (S (b.den:Int))] 23))=W0 at *;refine(vbo _ _ a b ha' hb' _ (he.below hB) r4 r5).mono ?_;rintro e W⟨rfl,h1⟩;replace hB:=Em hB h1
 replace r1:=r1.below h1;replace r2:=r2.below h1;replace r3:=r3.below h1;replace r4:=Ae r4 h1;obtain⟨a1,a2,_,_⟩:=zb r1.2;obtain⟨b1,b2,_,_⟩:=zb r2.2;clear h1 r5;have M1:=fun W (h:Env W) (h':WB W (w.heap.size+1+1+1) false)=>zbp _ false hx W h' fun _=>⟨ia,jb,fa,gb,h⟩
 have M2:=fun f W (h:Env W) (h':WB W (w.heap.size+1+1+1) f)=>zbp _ f hy W h' fun _=>⟨ib,ja,fb,ga,h⟩
 have M3:=fun f s1 s2 f1 (q1:DoS x false f1 s1) (q2:DoS y f1 f s2) W (h:Env W) (h':WB W (w.heap.size+1+1+1) f)=>jda _ F s1 s2 n f W eg h' fun hf=>by
  obtain⟨k1,k2,k3⟩:=q2.ok hf;obtain⟨_,k4,k5⟩:=q1.ok k1;rw[k3,k5];exact H W h k4 k2
 have M4:=fun f W (h:Env W) (h':WB W (w.heap.size+1+1+1) f)=>zbp _ f hd W h' fun _=>⟨ja,jb,ga,gb,h⟩
 unfold jcw at M1 M2 M3 M4;clear H ia ib ja jb hx hy hd fa fb ga gb ha' hb' eg;generalize S a.num=na at *;generalize S b.num=nb at *;generalize S (a.den:Int)=da at *;generalize S (b.den:Int)=db at *;go_wp2_with fail;go_region_held3 (fun X=>X.cell? ⟨w.heap.size,0,none⟩=some (.string na)/\X.cell? ⟨w.heap.size,1,none⟩=some (.string da)/\X.cell? ⟨w.heap.size+1,0,none⟩=some (.string nb)/\X.cell? ⟨w.heap.size+1,1,none⟩=some (.string db)) (first|exact⟨a1,a2,b1,b2⟩) (first
  | (go_at_call 158;refine(M1 _ (by first|exact he.below hB|exact he.below hB.drew|exact he.below (ze hB _)) (by exact r4)).mono ?_;rintro e W⟨s1,f1,rfl,r4,h1,q1⟩;(try replace h1:=jQ h1);replace hB:=hB.trans (h1.mono oo);replace r1:=r1.under oo h1;replace r2:=r2.under oo h1;replace r3:=r3.under oo h1;obtain⟨a1,a2,_,_⟩:=zb r1.2;obtain⟨b1,b2,_,_⟩:=zb r2.2)
  | (go_at_call 158;refine(M2 f1 _ (by first|exact he.below hB|exact he.below hB.drew|exact he.below (ze hB _)) (by exact r4)).mono ?_;rintro e W⟨s2,f2,rfl,r4,h1,q2⟩;(try replace h1:=jQ h1);replace hB:=hB.trans (h1.mono oo);replace r1:=r1.under oo h1;replace r2:=r2.under oo h1;replace r3:=r3.under oo h1;obtain⟨a1,a2,_,_⟩:=zb r1.2;obtain⟨b1,b2,_,_⟩:=zb r2.2)
  | (go_at_call 188;refine(M3 f2 s1 s2 f1 q1 q2 _ (by first|exact he.below hB|exact he.below hB.drew|exact he.below (ze hB _)) (by exact r4)).mono ?_;rintro e W⟨s3,f3,rfl,r4,h1,q3⟩;(try replace h1:=jQ h1);replace hB:=hB.trans (h1.mono oo);replace r1:=r1.under oo h1;replace r2:=r2.under oo h1;replace r3:=r3.under oo h1;obtain⟨a1,a2,_,_⟩:=zb r1.2;obtain⟨b1,b2,_,_⟩:=zb r2.2))
 go_wp2_with fail;refine(M4 _ _ (he.below hB) r4).mono ?_;rintro e W⟨s4,f4,rfl,r4,h1,q4⟩;replace hB:=hB.trans (h1.mono oo);replace r3:=r3.under oo h1;obtain⟨g1,g2⟩:=do4 q1 q2 q3 q4 hc d0 E;clear h1 r1 r2 a1 a2 b1 b2 q1 q2 q3 q4 hc d0 E;go_wp2_with fail;refine(jaK _ f4 _ (he.below hB) r4 g1 g2).mono ?_;rintro e W⟨u,v,z,ho,rfl,h1⟩;replace hB:=Em hB h1;replace r3:=r3.below h1;obtain⟨x1,x2,x3,x4⟩:=zb r3.2;have hst:=jq r3.2 (.string u) (.string v);obtain⟨g1,g2,_,_⟩:=zb hst;have hBs:=(hB.setCell (p:=⟨w.heap.size+1+1,0,none⟩) (by simp;omega) (.string u)).setCell (p:=⟨w.heap.size+1+1,1,none⟩) (by simp;omega) (.string v);go_wp2;refine bodyPost_ret (v:=.tuple #[.agg #[.string u,.string v],.int .i64 z]) ?res rfl ⟨u,v,z,ho,rfl,hBs⟩
 case res=>simp[results,f156,go_sem,g1,g2]
theorem vaN(w:World)(o1 o2 o3:Obj):Row (((w.alloc o1).alloc o2).alloc o3) (w.heap.size+1+1) o3/\Aa w (((w.alloc o1).alloc o2).alloc o3):=by
 have e1:(w.alloc o1).heap.size=w.heap.size+1:=by simp
 have e2:((w.alloc o1).alloc o2).heap.size=w.heap.size+1+1:=by simp
 refine⟨?_,?_⟩
 ·rw[<- e2];exact qp ((w.alloc o1).alloc o2) o3
 ·exact(((Au w.heap.size w).alloc (Am _) o1).alloc oo o2).alloc oo o3
structure AF(a b:Rat):Prop where
 da:QDig 200 a
 db:QDig 200 b
 x:Fits (a.num*(b.den:Int))
 y:Fits (b.num*(a.den:Int))
 n:Fits (a.num*(b.den:Int)+b.num*(a.den:Int))
 d:Fits ((a.den:Int)*(b.den:Int))
structure SF(a b:Rat):Prop where
 da:QDig 200 a
 db:QDig 200 b
 x:Fits (a.num*(b.den:Int))
 y:Fits (b.num*(a.den:Int))
 n:Fits (a.num*(b.den:Int)-b.num*(a.den:Int))
 d:Fits ((a.den:Int)*(b.den:Int))
theorem AF.of{j k:Nat}{a b:Rat}(ha:QDig j a)(hb:QDig k b)(hjk:j+k+1<=200):AF a b:=by
 have dx:=ha.1.mul hb.2;have dy:Dig (j+k) (b.num*(a.den:Int)):=by rw[Ci];exact hb.1.mul ha.2
 exact⟨ha.mono oo,hb.mono oo,dx.fits oo,dy.fits oo,(dx.add dy).fits oo,(ha.2.mul hb.2).fits oo⟩
abbrev Ct:=@AF.of
theorem SF.of{j k:Nat}{a b:Rat}(ha:QDig j a)(hb:QDig k b)(hjk:j+k+1<=200):SF a b:=by
 have dx:=ha.1.mul hb.2;have dy:Dig (j+k) (b.num*(a.den:Int)):=by rw[Ci];exact hb.1.mul ha.2
 exact⟨ha.mono oo,hb.mono oo,dx.fits oo,dy.fits oo,(dx.sub dy).fits oo,(ha.2.mul hb.2).fits oo⟩
theorem yc6{a b:Rat}(ha':QDig 200 a)(hb':QDig 200 b)(w:World)(he:Env w) :
  Calls prog 111 #[Q a,Q b] w (QRes (AF a b) (a+b) w):=by
 have eg:∀ args w,(callFunc 132 args).run prog w=.ok (.enter 132 args) w:=enters_of func132 kr9 rfl;have d0:(a.den:Int)*(b.den:Int)≠0:=by have:=den_pos a;have:=den_pos b;exact Int.ne_of_gt (BG oo oo)
 have H:=kcY 132 eg (a:=a) (b:=b) (q:=a+b) (c:=AF a b) ha' hb' (hid rfl) (hid rfl) (hid rfl) ⟨fun h=>⟨h.x,h.y,h.n,h.d⟩,fun h=>⟨ha',hb',h.1,h.2.1,h.2.2.1,h.2.2.2⟩⟩ d0 (qaj a b)
  (fun W hW hx hy=>qct _ _ _ _ W hW.tab (qq _) (qq _) hx hy ((qq _).str hx) ((qq _).str hy))
 obtain⟨r3,hB⟩:=vaN w (oR a) (oR b) oR0;have H1:=H _ (he.below hB);clear H d0;unfold QRes at *;show Calls prog 111 #[Ac a,Ac b] w _;generalize hq:a+b=q at *;go_enter func111,ntmps111;go_wp2_with fail;generalize ((w.alloc (oR a)).alloc (oR b)).alloc oR0=W0 at *;refine H1.mono ?_;rintro e W⟨u,v,z,ho,rfl,h1⟩;replace hB:=Em hB h1;replace r3:=r3.below h1;obtain⟨x1,x2,x3,x4⟩:=zb r3.2;have hst:=jq r3.2 (.string u) (.string v);obtain⟨g1,g2,_,_⟩:=zb hst;have hBs:=(hB.setCell (p:=⟨w.heap.size+1+1,0,none⟩) (by simp;omega) (.string u)).setCell (p:=⟨w.heap.size+1+1,1,none⟩) (by simp;omega) (.string v);go_wp2;refine bodyPost_ret (v:=.tuple #[.agg #[.string u,.string v],.int .i64 z]) ?res rfl ⟨u,v,z,ho,rfl,hBs⟩
 case res=>simp[results,f111,go_sem,g1,g2]
theorem qc7{a b:Rat}(ha':QDig 200 a)(hb':QDig 200 b)(w:World)(he:Env w) :
  Calls prog 148 #[Q a,Q b] w (QRes (SF a b) (a-b) w):=by
 have eg:∀ args w,(callFunc 184 args).run prog w=.ok (.enter 184 args) w:=enters_of func184 kr9 rfl;have d0:(a.den:Int)*(b.den:Int)≠0:=by have:=den_pos a;have:=den_pos b;exact Int.ne_of_gt (BG oo oo)
 have H:=kcY 184 eg (a:=a) (b:=b) (q:=a-b) (c:=SF a b) ha' hb' (hid rfl) (hid rfl) (hid rfl) ⟨fun h=>⟨h.x,h.y,h.n,h.d⟩,fun h=>⟨ha',hb',h.1,h.2.1,h.2.2.1,h.2.2.2⟩⟩ d0 (yan a b)
  (fun W hW hx hy=>qcv _ _ _ _ W hW.tab (qq _) (qq _) hx hy ((qq _).str hx) ((qq _).str hy))
 obtain⟨r3,hB⟩:=vaN w (oR a) (oR b) oR0;have H1:=H _ (he.below hB);clear H d0;unfold QRes at *;show Calls prog 148 #[Ac a,Ac b] w _;generalize hq:a-b=q at *;go_enter func148,ntmps148;go_wp2_with fail;generalize ((w.alloc (oR a)).alloc (oR b)).alloc oR0=W0 at *;refine H1.mono ?_;rintro e W⟨u,v,z,ho,rfl,h1⟩;replace hB:=Em hB h1;replace r3:=r3.below h1;obtain⟨x1,x2,x3,x4⟩:=zb r3.2;have hst:=jq r3.2 (.string u) (.string v);obtain⟨g1,g2,_,_⟩:=zb hst;have hBs:=(hB.setCell (p:=⟨w.heap.size+1+1,0,none⟩) (by simp;omega) (.string u)).setCell (p:=⟨w.heap.size+1+1,1,none⟩) (by simp;omega) (.string v);go_wp2;refine bodyPost_ret (v:=.tuple #[.agg #[.string u,.string v],.int .i64 z]) ?res rfl ⟨u,v,z,ho,rfl,hBs⟩
 case res=>simp[results,f148,go_sem,g1,g2]
theorem za{P:Program}{F:FuncId}{args:Array Value}{w:World}{R:Ending->World->Prop}(p:World->Prop)(h0:p w)(h:∀ W,p W->Calls P F args W R):Calls P F args w R:=h w h0
theorem jg{w:World}{b:Nat}{o:Obj}(h:b=w.heap.size):Row (w.alloc o) b o:=h ▸ qp w o
theorem Row.drew{W:World}{b:Nat}{o:Obj}(h:Row W b o):Row W.drew b o:=h
abbrev AX:=@Row.drew
theorem Row.drewN{W:World}{b:Nat}{o:Obj}(h:Row W b o)(k:Nat):Row (W.drewN k) b o:=h
abbrev Ck:=@Row.drewN
theorem Row.set_other{W:World}{b c i:Nat}{o:Obj}(h:Row W b o)(v:Value)(hne:b≠c):Row (W.setCell ⟨c,i,none⟩ v) b o :=
 ⟨by simpa using h.1,by rw[Below.heap_setCell _ _ _ _ hne];exact h.2⟩
abbrev Ba:=@Row.set_other
theorem Row.set_same{W:World}{b i:Nat}{vs vs':Array Value}{v:Value}{t:TypeId}(h:Row W b (.cells vs t))(e:vs.setIfInBounds i v=vs'):Row (W.setCell ⟨b,i,none⟩ v) b (.cells vs' t) :=
 ⟨by simpa using h.1,by simp[World.setCell,BN,h.2,e]⟩
theorem Row.set2{W:World}{b:Nat}{v0 v1 u0 u1:Value}{t:TypeId}(h:Row W b (.cells #[v0,v1] t)):Row ((W.setCell ⟨b,0,none⟩ u0).setCell ⟨b,1,none⟩ u1) b (.cells #[u0,u1] t):=(h.set_same rfl).set_same rfl
abbrev Bz:=@Row.set2
theorem Row.set4{W:World}{b:Nat}{v0 v1 v2 v3 u0 u1 u2 u3:Value}{t:TypeId}(h:Row W b (.cells #[v0,v1,v2,v3] t)) :
  Row ((((W.setCell ⟨b,0,none⟩ u0).setCell ⟨b,1,none⟩ u1).setCell ⟨b,2,none⟩ u2).setCell ⟨b,3,none⟩ u3) b (.cells #[u0,u1,u2,u3] t):=(((h.set_same rfl).set_same rfl).set_same rfl).set_same rfl
abbrev BO:=@Row.set4
theorem Row.set1{W:World}{b:Nat}{v0 u0:Value}{t:TypeId}(h:Row W b (.cells #[v0] t)):Row (W.setCell ⟨b,0,none⟩ u0) b (.cells #[u0] t):=h.set_same rfl
abbrev BP:=@Row.set1
theorem Row.set4a{W:World}{b:Nat}{v0 v1 v2 v3 u0 u1:Value}{t:TypeId}(h:Row W b (.cells #[v0,v1,v2,v3] t)):Row ((W.setCell ⟨b,0,none⟩ u0).setCell ⟨b,1,none⟩ u1) b (.cells #[u0,u1,v2,v3] t):=(h.set_same rfl).set_same rfl
abbrev BD:=@Row.set4a
theorem Row.set4b{W:World}{b:Nat}{v0 v1 v2 v3 u2 u3:Value}{t:TypeId}(h:Row W b (.cells #[v0,v1,v2,v3] t)):Row ((W.setCell ⟨b,2,none⟩ u2).setCell ⟨b,3,none⟩ u3) b (.cells #[v0,v1,u2,u3] t):=(h.set_same rfl).set_same rfl
abbrev BE:=@Row.set4b
theorem vc{P:Program}{fn:Func}{R:Ending->World->Prop}{ex:Exit}{a:Act}{w:World}(p:World->Prop)(h0:p w)(h:∀ W,p W->bodyPost P fn R ex a W):bodyPost P fn R ex a w:=h w h0
theorem zi{P:Program}{c:Code}{Q:Exit->Act->World->Prop}{a:Act}{w:World}(p:World->Prop)(h0:p w)(h:∀ W,p W->c.wp P Q a W):c.wp P Q a w:=h w h0
theorem Row.cells1{W:World}{b:Nat}{v0:Value}{t:TypeId}(h:Row W b (.cells #[v0] t)):b<W.heap.size/\W.cell? ⟨b,0,none⟩=some v0/\W.frozen? ⟨b,0,none⟩=false:=⟨h.1,vq h.2⟩
abbrev Bi:=@Row.cells1
theorem Row.cells2{W:World}{b:Nat}{v0 v1:Value}{t:TypeId}(h:Row W b (.cells #[v0,v1] t)) :
  b<W.heap.size/\W.cell? ⟨b,0,none⟩=some v0/\W.cell? ⟨b,1,none⟩=some v1/\W.frozen? ⟨b,0,none⟩=false/\W.frozen? ⟨b,1,none⟩=false:=⟨h.1,zb h.2⟩
abbrev Av:=@Row.cells2
theorem Row.cells4{W:World}{b:Nat}{v0 v1 v2 v3:Value}{t:TypeId}(h:Row W b (.cells #[v0,v1,v2,v3] t)) :
  b<W.heap.size/\W.cell? ⟨b,0,none⟩=some v0/\W.cell? ⟨b,1,none⟩=some v1/\W.cell? ⟨b,2,none⟩=some v2/\W.cell? ⟨b,3,none⟩=some v3
   /\ W.frozen? ⟨b,0,none⟩=false/\W.frozen? ⟨b,1,none⟩=false/\W.frozen? ⟨b,2,none⟩=false/\W.frozen? ⟨b,3,none⟩=false :=
 ⟨h.1,cell_of_row _ _ 0 _ _ _ h.2,cell_of_row _ _ 1 _ _ _ h.2,cell_of_row _ _ 2 _ _ _ h.2,cell_of_row _ _ 3 _ _ _ h.2,frozen_of_row _ _ 0 _ _ h.2,frozen_of_row _ _ 1 _ _ h.2,frozen_of_row _ _ 2 _ _ h.2,frozen_of_row _ _ 3 _ _ h.2⟩
abbrev AM:=@Row.cells4
end Go.Proofs.YtdiecekagiledaaGreatDoor
