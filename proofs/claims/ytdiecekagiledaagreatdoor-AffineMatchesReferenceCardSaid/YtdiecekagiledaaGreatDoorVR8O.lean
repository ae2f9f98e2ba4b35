/- The reference of drift: short fractions, valid histories. Two strings are. -/
import Derived.Test.YtdiecekagiledaaGreatDoorVR8
set_option linter.unusedSimpArgs false
set_option linter.unusedVariables false
set_option maxRecDepth 100000
set_option maxHeartbeats 16000000
namespace Go.Proofs.YtdiecekagiledaaGreatDoor
open Go Go.RowKit Go.Lib Go.Shelf Go.Proofs.Tryz
theorem ycw(z:Int):(S z).size=(if z<0 then 1 else 0)+(decDigits z.natAbs).length:=by
 have h1:(S z).size=(itoa z).length:=by unfold S ByteArray.size;simp
 rw[h1];rcases Ce z 0 with h|h
 ·obtain⟨u,rfl⟩:∃ u:Nat,z = -(u:Int):=⟨z.natAbs,oo⟩
  rw[vag u oo,if_pos h];simp;omega
 ·obtain⟨u,rfl⟩:∃ u:Nat,z=(u:Int):=⟨z.natAbs,oo⟩
  rw[vE,if_neg oo];simp
def RatS(k:Nat)(a b:ByteArray)(q:Rat):Prop:=a=S q.num/\b=S (q.den:Int)/\QDig k q
theorem kbX{a:ByteArray}{x:Int}(h:Is a x):a=S x:=by
 obtain⟨⟨d⟩⟩:=a;unfold S;have h':d=itoa x:=h;rw[h']
theorem ycF{a b:ByteArray}{x y:Int}(ha:Is a x)(hb:Is b y)(fx:Fits x)(fy:Fits y)(h0:0<y)(hg:((x.natAbs.gcd y.natAbs:Nat):Int)=1):∃ q,RatS 200 a b q:=by
 obtain⟨r1,r2⟩:=qF (n:=x) h0;rw[hg,Int.ediv_one]at r1 r2;exact⟨Rat.divInt x y,by rw[r1];exact kbX ha,by rw[r2];exact kbX hb,by unfold Dig;rw[r1];exact fx,by unfold Dig;rw[r2];exact fy⟩
theorem Is.len{a:ByteArray}{x:Int}(h:Is a x):a.size=(if x<0 then 1 else 0)+(decDigits x.natAbs).length:=by rw[kbX h];exact ycw x
theorem RatS.short{k:Nat}{a b:ByteArray}{q:Rat}(h:RatS 200 a b q)(hk:0<k)(ha:a.size<=k)(hb:b.size<=k):RatS k a b q:=by
 obtain⟨h1,h2,_⟩:=h;refine⟨h1,h2,?_,?_⟩
 ·rw[h1,ycw]at ha;exact(vau _ k hk).1 oo
 ·rw[h2,ycw,if_neg oo,Bj]at hb;exact(vau _ k hk).1 hb
theorem qcV{a b:ByteArray}(V1:∀ W,Calls prog 88 #[.string a] W (qa false W))(w:World):Calls prog 36 #[.agg #[.string a,.string b]] w (qa false w):=by
 have hB:=Ab w;have M1:=V1;unfold qa at *;clear V1;go_enter func36,ntmps36;go_wp2_with fail;have sB:=hB.size;refine za (fun X=>Aa w X/\Row X w.heap.size (.cells #[.string a,.string b] 23)) ⟨BW,RWh⟩ ?_;clear hB sB;rintro V1⟨hB,rb0⟩;have sb0:=RF2 rb0;refine(M1 _).mono ?_;rintro e W2⟨rfl,h1⟩;have st:=St1 hB h1 rb0;clear hB h1 rb0 sb0;obtain⟨hB,rb0⟩:=st;have sb0:=RF2 rb0;go_wp2;go_ret;exact⟨rfl,hB⟩
theorem jcV{a b:ByteArray}(V1:∀ W,Calls prog 88 #[.string a] W (qa true W))(V2:∀ W,Calls prog 88 #[.string b] W (qa false W))(w:World):Calls prog 36 #[.agg #[.string a,.string b]] w (qa false w):=by
 have hB:=Ab w;have M1:=V1;have M2:=V2;unfold qa at *;clear V1 V2;go_enter func36,ntmps36;go_wp2_with fail;have sB:=hB.size;refine za (fun X=>Aa w X/\Row X w.heap.size (.cells #[.string a,.string b] 23)) ⟨BW,RWh⟩ ?_;clear hB sB;rintro V1⟨hB,rb0⟩;have sb0:=RF2 rb0;refine(M1 _).mono ?_;rintro e W2⟨rfl,h1⟩;have st:=St1 hB h1 rb0;clear hB h1 rb0 sb0;obtain⟨hB,rb0⟩:=st;have sb0:=RF2 rb0;go_wp2_with fail;refine(M2 _).mono ?_;rintro e W3⟨rfl,h1⟩;have st:=St1 hB h1 rb0;clear hB h1 rb0 sb0;obtain⟨hB,rb0⟩:=st;have sb0:=RF2 rb0;go_wp2;go_ret;exact⟨rfl,hB⟩
theorem kcV{a b:ByteArray}{c:Int}(hc:c<=0)(V1:∀ W,Calls prog 88 #[.string a] W (qa true W))(V2:∀ W,Calls prog 88 #[.string b] W (qa true W))(V3:∀ W,Calls prog 89 #[.string b,.string ⟨#[48]⟩] W (jB c W))(w:World):Calls prog 36 #[.agg #[.string a,.string b]] w (qa false w):=by
 have hB:=Ab w;have M1:=V1;have M2:=V2;have M3:=V3;unfold qa at *;unfold jB at M3;have e1:decide (c<=0)=true:=decide_eq_true hc;clear V1 V2 V3 hc;go_enter func36,ntmps36;go_wp2_with fail;have sB:=hB.size;refine za (fun X=>Aa w X/\Row X w.heap.size (.cells #[.string a,.string b] 23)) ⟨BW,RWh⟩ ?_;clear hB sB;rintro V1⟨hB,rb0⟩;have sb0:=RF2 rb0;refine(M1 _).mono ?_;rintro e W2⟨rfl,h1⟩;have st:=St1 hB h1 rb0;clear hB h1 rb0 sb0;obtain⟨hB,rb0⟩:=st;have sb0:=RF2 rb0;go_wp2_with fail;refine(M2 _).mono ?_;rintro e W3⟨rfl,h1⟩;have st:=St1 hB h1 rb0;clear hB h1 rb0 sb0;obtain⟨hB,rb0⟩:=st;have sb0:=RF2 rb0;go_wp2_with fail;refine(M3 _).mono ?_;rintro e W4⟨rfl,h1⟩;have st:=St1 hB h1 rb0;clear hB h1 rb0 sb0;obtain⟨hB,rb0⟩:=st;have sb0:=RF2 rb0;go_wp2;go_ret;exact⟨rfl,hB⟩
theorem ycV{a b:ByteArray}{g:Int}(hg:g≠1)(V1:∀ W,Calls prog 88 #[.string a] W (qa true W))(V2:∀ W,Calls prog 88 #[.string b] W (qa true W))(V3:∀ W,Calls prog 89 #[.string b,.string ⟨#[48]⟩] W (jB 1 W))(V4:∀ W,Env W->Calls prog 90 #[.string a,.string b] W (vX g W))(w:World)(he:Env w):Calls prog 36 #[.agg #[.string a,.string b]] w (qa false w):=by
 have hB:=Ab w;have M1:=V1;have M2:=V2;have M3:=V3;have M4:=V4;unfold qa at *;unfold jB at M3;unfold vX at M4;have e1:((S g).toList==[49])=false:=by have:=vcI hg;rw[jaA 1,show itoa 1=[49] by decide +kernel]at this;exact this
 generalize S g=sg at *;clear V1 V2 V3 V4 hg;go_enter func36,ntmps36;go_wp2_with fail;have sB:=hB.size;refine za (fun X=>Aa w X/\Row X w.heap.size (.cells #[.string a,.string b] 23)) ⟨BW,RWh⟩ ?_;clear hB sB;rintro V1⟨hB,rb0⟩;have sb0:=RF2 rb0;refine(M1 _).mono ?_;rintro e W2⟨rfl,h1⟩;have st:=St1 hB h1 rb0;clear hB h1 rb0 sb0;obtain⟨hB,rb0⟩:=st;have sb0:=RF2 rb0;go_wp2_with fail;refine(M2 _).mono ?_;rintro e W3⟨rfl,h1⟩;have st:=St1 hB h1 rb0;clear hB h1 rb0 sb0;obtain⟨hB,rb0⟩:=st;have sb0:=RF2 rb0;go_wp2_with fail;refine(M3 _).mono ?_;rintro e W4⟨rfl,h1⟩;have st:=St1 hB h1 rb0;clear hB h1 rb0 sb0;obtain⟨hB,rb0⟩:=st;have sb0:=RF2 rb0;go_wp2_with fail;clear rb0 sb0;refine(M4 _ (he.below hB)).mono ?_;rintro e W5⟨rfl,h1⟩;have st:=St0 hB h1;clear hB h1;have hB:=st;clear st;go_wp2;go_ret;exact⟨rfl,hB⟩
theorem kbn{a b:ByteArray}{c:Bool}(V1:∀ W,Calls prog 91 #[.string a] W (qa false W))(V2:∀ W,Calls prog 91 #[.string b] W (qa c W))(w:World):Calls prog 37 #[.agg #[.string a,.string b]] w (qa false w):=by
 have hB:=Ab w;have M1:=V1;have M2:=V2;unfold qa at *;clear V1 V2;go_enter func37,ntmps37;go_wp2_with fail;have sB:=hB.size;refine za (fun X=>Aa w X/\Row X w.heap.size (.cells #[.string a,.string b] 23)) ⟨BW,RWh⟩ ?_;clear hB sB;rintro V1⟨hB,rb0⟩;have sb0:=RF2 rb0;refine(M1 _).mono ?_;rintro e W2⟨rfl,h1⟩;have st:=St1 hB h1 rb0;clear hB h1 rb0 sb0;obtain⟨hB,rb0⟩:=st;have sb0:=RF2 rb0;go_wp2_with fail;refine(M2 _).mono ?_;rintro e W3⟨rfl,h1⟩;have st:=St1 hB h1 rb0;clear hB h1 rb0 sb0;obtain⟨hB,rb0⟩:=st;have sb0:=RF2 rb0;go_wp2;go_ret;exact⟨rfl,hB⟩
theorem kcG{a b:ByteArray}(V1:∀ W,Calls prog 91 #[.string a] W (qa true W))(V2:∀ W,Calls prog 91 #[.string b] W (qa false W))(w:World):Calls prog 37 #[.agg #[.string a,.string b]] w (qa false w):=by
 have hB:=Ab w;have M1:=V1;have M2:=V2;unfold qa at *;clear V1 V2;go_enter func37,ntmps37;go_wp2_with fail;have sB:=hB.size;refine za (fun X=>Aa w X/\Row X w.heap.size (.cells #[.string a,.string b] 23)) ⟨BW,RWh⟩ ?_;clear hB sB;rintro V1⟨hB,rb0⟩;have sb0:=RF2 rb0;refine(M1 _).mono ?_;rintro e W2⟨rfl,h1⟩;have st:=St1 hB h1 rb0;clear hB h1 rb0 sb0;obtain⟨hB,rb0⟩:=st;have sb0:=RF2 rb0;go_wp2_with fail;refine(M2 _).mono ?_;rintro e W3⟨rfl,h1⟩;have st:=St1 hB h1 rb0;clear hB h1 rb0 sb0;obtain⟨hB,rb0⟩:=st;have sb0:=RF2 rb0;go_wp2;go_ret;exact⟨rfl,hB⟩
theorem ycG{a b:ByteArray}{c:Int}(hc:c<=0)(V1:∀ W,Calls prog 91 #[.string a] W (qa true W))(V2:∀ W,Calls prog 91 #[.string b] W (qa true W))(V3:∀ W,Calls prog 92 #[.string b,.string ⟨#[48]⟩] W (jB c W))(w:World):Calls prog 37 #[.agg #[.string a,.string b]] w (qa false w):=by
 have hB:=Ab w;have M1:=V1;have M2:=V2;have M3:=V3;unfold qa at *;unfold jB at M3;have e1:decide (c<=0)=true:=decide_eq_true hc;clear V1 V2 V3 hc;go_enter func37,ntmps37;go_wp2_with fail;have sB:=hB.size;refine za (fun X=>Aa w X/\Row X w.heap.size (.cells #[.string a,.string b] 23)) ⟨BW,RWh⟩ ?_;clear hB sB;rintro V1⟨hB,rb0⟩;have sb0:=RF2 rb0;refine(M1 _).mono ?_;rintro e W2⟨rfl,h1⟩;have st:=St1 hB h1 rb0;clear hB h1 rb0 sb0;obtain⟨hB,rb0⟩:=st;have sb0:=RF2 rb0;go_wp2_with fail;refine(M2 _).mono ?_;rintro e W3⟨rfl,h1⟩;have st:=St1 hB h1 rb0;clear hB h1 rb0 sb0;obtain⟨hB,rb0⟩:=st;have sb0:=RF2 rb0;go_wp2_with fail;refine(M3 _).mono ?_;rintro e W4⟨rfl,h1⟩;have st:=St1 hB h1 rb0;clear hB h1 rb0 sb0;obtain⟨hB,rb0⟩:=st;have sb0:=RF2 rb0;go_wp2;go_ret;exact⟨rfl,hB⟩
theorem vcG{a b:ByteArray}{g:Int}(hg:g≠1)(V1:∀ W,Calls prog 91 #[.string a] W (qa true W))(V2:∀ W,Calls prog 91 #[.string b] W (qa true W))(V3:∀ W,Calls prog 92 #[.string b,.string ⟨#[48]⟩] W (jB 1 W))(V4:∀ W,Env W->Calls prog 93 #[.string a,.string b] W (vX g W))(w:World)(he:Env w):Calls prog 37 #[.agg #[.string a,.string b]] w (qa false w):=by
 have hB:=Ab w;have M1:=V1;have M2:=V2;have M3:=V3;have M4:=V4;unfold qa at *;unfold jB at M3;unfold vX at M4;have e1:((S g).toList==[49])=false:=by have:=vcI hg;rw[jaA 1,show itoa 1=[49] by decide +kernel]at this;exact this
 generalize S g=sg at *;clear V1 V2 V3 V4 hg;go_enter func37,ntmps37;go_wp2_with fail;have sB:=hB.size;refine za (fun X=>Aa w X/\Row X w.heap.size (.cells #[.string a,.string b] 23)) ⟨BW,RWh⟩ ?_;clear hB sB;rintro V1⟨hB,rb0⟩;have sb0:=RF2 rb0;refine(M1 _).mono ?_;rintro e W2⟨rfl,h1⟩;have st:=St1 hB h1 rb0;clear hB h1 rb0 sb0;obtain⟨hB,rb0⟩:=st;have sb0:=RF2 rb0;go_wp2_with fail;refine(M2 _).mono ?_;rintro e W3⟨rfl,h1⟩;have st:=St1 hB h1 rb0;clear hB h1 rb0 sb0;obtain⟨hB,rb0⟩:=st;have sb0:=RF2 rb0;go_wp2_with fail;refine(M3 _).mono ?_;rintro e W4⟨rfl,h1⟩;have st:=St1 hB h1 rb0;clear hB h1 rb0 sb0;obtain⟨hB,rb0⟩:=st;have sb0:=RF2 rb0;go_wp2_with fail;clear rb0 sb0;refine(M4 _ (he.below hB)).mono ?_;rintro e W5⟨rfl,h1⟩;have st:=St0 hB h1;clear hB h1;have hB:=st;clear st;go_wp2;go_ret;exact⟨rfl,hB⟩
theorem jaX{c:Bool}{f:FuncId}{args:Array Value}{w:World}(h:Calls prog f args w (qbM c w)):Calls prog f args w (qa c w):=h.mono fun _ _ h=>⟨h.1,by rw[h.2];exact Au _ _⟩
def NotRat(a b:ByteArray):Prop:=∀ W,Env W->Calls prog 36 #[.agg #[.string a,.string b]] W (qa false W)/\Calls prog 37 #[.agg #[.string a,.string b]] W (qa false W)
theorem jb4(a b:ByteArray)(hsa:Str a)(hsb:Str b):(∃ q,RatS 200 a b q)\/NotRat a b:=by
 by_cases h1:ks a.data.toList=true
 ·have v1:=fun W=>yao (hid h1) hsa W
  have w1:=fun W=>jaX (yat h1 hsa W)
  by_cases h2:ks b.data.toList=true
  ·have v2:=fun W=>yao (hid h2) hsb W
   have w2:=fun W=>jaX (yat h2 hsb W)
   obtain⟨x,fx,ex⟩:=zai _ h1;obtain⟨y,fy,ey⟩:=zai _ h2;have ix:Is a x:=ex;have iy:Is b y:=ey;by_cases h0:0<y
   ·by_cases hg:((x.natAbs.gcd y.natAbs:Nat):Int)=1
    ·exact .inl (ycF ix iy fx fy h0 hg)
    ·have c1:=fun W=>qcA iy yE (hid (qaq h0)) fy qy W
     have d1:=fun W=>kaX iy yE (hid (qaq h0)) fy qy W
     exact .inr fun W he=>⟨ycV hg v1 v2 c1 (fun W he=>qcZ ix iy (hid rfl) fx fy W he) W he,vcG hg w1 w2 d1 (fun W _=>vcF ix iy (hid rfl) fx fy W) W he⟩
   ·have hc:kp y 0<=0:=by rcases Ce y 0 with h|h;(· rw[jbR h];decide);(· rw[ybe oo];decide)
    exact .inr fun W he=>⟨kcV hc v1 v2 (fun W=>qcA iy yE (hid rfl) fy qy W) W,ycG hc w1 w2 (fun W=>kaX iy yE (hid rfl) fy qy W) W⟩
  ·have h2:ks b.data.toList=false:=by simpa using h2
   exact .inr fun W he=>⟨jcV v1 (fun W=>yao (hid h2) hsb W) W,kcG w1 (fun W=>jaX (yL h2 hsb W)) W⟩
 ·have h1:ks a.data.toList=false:=by simpa using h1
  refine .inr fun W he=>⟨qcV (fun W=>yao (hid h1) hsa W) W,?_⟩
  by_cases h2:ks b.data.toList=true
  ·exact kbn (fun W=>jaX (yL h1 hsa W)) (fun W=>jaX (yat h2 hsb W)) W
  ·have h2:ks b.data.toList=false:=by simpa using h2
   exact kbn (fun W=>jaX (yL h1 hsa W)) (fun W=>jaX (yL h2 hsb W)) W
theorem NotRat.prog{a b:ByteArray}(h:NotRat a b)(W:World)(he:Env W):Calls Tryz.prog 36 #[.agg #[.string a,.string b]] W (qa false W):=(h W he).1
theorem NotRat.ref{a b:ByteArray}(h:NotRat a b)(W:World)(he:Env W):Calls Tryz.prog 37 #[.agg #[.string a,.string b]] W (qa false W):=(h W he).2
instance decFits (z:Int):Decidable (Fits z):=inferInstanceAs (Decidable (_<_))
instance decQDig (k:Nat) (q:Rat):Decidable (QDig k q):=inferInstanceAs (Decidable ((_<_)/\(_<_)))
instance decAF (a b:Rat):Decidable (AF a b):=decidable_of_iff (QDig 200 a/\QDig 200 b/\Fits (a.num*(b.den:Int))/\Fits (b.num*(a.den:Int))/\Fits (a.num*(b.den:Int)+b.num*(a.den:Int))/\Fits ((a.den:Int)*(b.den:Int))) ⟨fun⟨h1,h2,h3,h4,h5,h6⟩=>⟨h1,h2,h3,h4,h5,h6⟩,fun h=>⟨h.1,h.2,h.3,h.4,h.5,h.6⟩⟩
instance decSF (a b:Rat):Decidable (SF a b):=decidable_of_iff (QDig 200 a/\QDig 200 b/\Fits (a.num*(b.den:Int))/\Fits (b.num*(a.den:Int))/\Fits (a.num*(b.den:Int)-b.num*(a.den:Int))/\Fits ((a.den:Int)*(b.den:Int))) ⟨fun⟨h1,h2,h3,h4,h5,h6⟩=>⟨h1,h2,h3,h4,h5,h6⟩,fun h=>⟨h.1,h.2,h.3,h.4,h.5,h.6⟩⟩
instance decMF (a b:Rat):Decidable (MF a b):=decidable_of_iff (QDig 200 a/\QDig 200 b/\Fits (a.num*b.num)/\Fits ((a.den:Int)*(b.den:Int))) ⟨fun⟨h1,h2,h3,h4⟩=>⟨h1,h2,h3,h4⟩,fun h=>⟨h.1,h.2,h.3,h.4⟩⟩
def OD(x:Option Rat):Prop:=∀ q,x=some q->QDig 200 q
theorem OD.some{q:Rat}(h:QDig 200 q):OD (some q):=fun _ e=>by cases e;exact h
abbrev Cc:=@OD.some
def o1:Option Rat->ByteArray
 | some q=>S q.num
 | none=>⟨#[]⟩
def o2:Option Rat->ByteArray
 | some q=>S (q.den:Int)
 | none=>⟨#[]⟩
def oe:Option Rat->Int
 | some _=>0
 | none=>40
def yv:Option Rat->Option Rat->Option Rat
 | some a,some b=>if AF a b then some (a+b) else none
 | _,_=>none
def jap:Option Rat->Option Rat->Option Rat
 | some a,some b=>if SF a b then some (a-b) else none
 | _,_=>none
def zv:Option Rat->Option Rat->Option Rat
 | some a,some b=>if MF a b then some (a*b) else none
 | _,_=>none
theorem vaA(x y:Option Rat):OD (yv x y):=fun q e=>by
 cases x<;>cases y<;>simp only[yv]at e<;>(try (cases e;done))
 split at e
 ·rename_i h;cases e;exact h.dig
 ·cases e
theorem zah(x y:Option Rat):OD (zv x y):=fun q e=>by
 cases x<;>cases y<;>simp only[zv]at e<;>(try (cases e;done))
 split at e
 ·rename_i h;cases e;exact h.dig
 ·cases e
theorem zA{a b:Rat}(h:AF a b):yv (some a) (some b)=some (a+b):=if_pos h
theorem qT{a b:Rat}(h:¬ AF a b):yv (some a) (some b)=none:=if_neg h
theorem qaI{a b:Rat}(h:SF a b):jap (some a) (some b)=some (a-b):=if_pos h
theorem kbx{a b:Rat}(h:¬ SF a b):jap (some a) (some b)=none:=if_neg h
theorem qv{a b:Rat}(h:MF a b):zv (some a) (some b)=some (a*b):=if_pos h
theorem yay{a b:Rat}(h:¬ MF a b):zv (some a) (some b)=none:=if_neg h
theorem kbN(x:Option Rat):yv none x=none:=rfl
theorem jab(x:Option Rat):yv x none=none:=by cases x<;>rfl
theorem zN(z:Int):(qH z=0/\Fits z/\(⟨(jn z).toArray⟩:ByteArray)=S z)\/(qH z≠0/\¬ Fits z):=by
 by_cases h:Fits z
 ·exact .inl ⟨qQ h,h,jJ h⟩
 ·exact .inr ⟨by rw[yaY h];decide,h⟩
theorem va9(w:World):Calls prog 37 #[.agg #[.string ⟨#[]⟩,.string ⟨#[]⟩]] w (qa false w) :=
 kbn (c:=false) (fun W=>jaX (yL dd (by unfold Str;decide) W)) (fun W=>jaX (yL dd (by unfold Str;decide) W)) w
theorem zaz{x:Option Rat}(h:OD x)(w:World):Calls prog 37 #[.agg #[.string (o1 x),.string (o2 x)]] w (qa x.isSome w):=by
 cases x with
 | none=>exact va9 w
 | some q=>exact zH q (h q rfl) w
def ya0(x y:Option Rat)(w:World)(e:Ending)(w':World):Prop:=∃ u v d:ByteArray,∃ ok:Bool,((∃ a b,x=some a/\y=some b/\ok=true/\Fits (a.num*(b.den:Int))/\Fits (b.num*(a.den:Int))/\Fits ((a.den:Int)*(b.den:Int))/\u=S (a.num*(b.den:Int))/\v=S (b.num*(a.den:Int))/\d=S ((a.den:Int)*(b.den:Int)))
 \/ (ok=false/\∀ a b,x=some a->y=some b->¬ (Fits (a.num*(b.den:Int))/\Fits (b.num*(a.den:Int))/\Fits ((a.den:Int)*(b.den:Int)))))/\e=.returned (.tuple #[.string u,.string v,.string d,.bool ok])/\Aa w w'
theorem yaH{x y:Option Rat}(hx:OD x)(hy:OD y)(hn:¬ (x.isSome=true/\y.isSome=true))(w:World):Calls prog 160 #[.agg #[.string (o1 x),.string (o2 x)],.agg #[.string (o1 y),.string (o2 y)]] w (ya0 x y w):=by
 have hB:=Ab w;have M1:=fun W=>zaz hx W
 have M2:=fun W=>zaz hy W
 unfold qa at M1 M2;generalize hu:x.isSome=u at *;generalize hv:y.isSome=v at *;generalize o1 x=x1 at *;generalize o2 x=x2 at *;generalize o1 y=y1 at *;generalize o2 y=y2 at *;have HU:=hid hu;have HV:=hid hv;clear hu hv hx hy;go_enter func160,ntmps160;go_wp2_with fail;have sB:=hB.size;refine za (fun X=>Aa w X/\Row X w.heap.size (.cells #[.string x1,.string x2] 23)/\Row X (w.heap.size+1) (.cells #[.string y1,.string y2] 23)) ⟨BW,RW8,RW8⟩ ?_;clear hB sB;rintro V1⟨hB,ra,rb⟩;have sa:=RF2 ra;have sb:=RF2 rb;refine(M1 _).mono ?_;rintro e W2⟨rfl,h1⟩;have stp:=St2 hB h1 ra rb;clear hB h1 ra sa rb sb;obtain⟨hB,ra,rb⟩:=stp;have sa:=RF2 ra;have sb:=RF2 rb;go_wp2_with fail;refine(M2 _).mono ?_;rintro e W3⟨rfl,h1⟩;have stp:=St2 hB h1 ra rb;clear hB h1 ra sa rb sb;obtain⟨hB,ra,rb⟩:=stp;have sa:=RF2 ra;have sb:=RF2 rb
 cases u with
 | false =>
  go_wp2;refine bodyPost_ret (v:=.tuple #[.string ⟨#[]⟩,.string ⟨#[]⟩,.string ⟨#[]⟩,.bool false]) ?res rfl ⟨_,_,_,false,.inr ⟨rfl,fun a b ha hb=>by rw[<- HU.out,<- HV.out,ha,hb]at hn;simp at hn⟩,rfl,hB⟩
  case res=>simp[results,results160,go_sem]
 | true =>
  cases v with
  | false =>
   go_wp2;refine bodyPost_ret (v:=.tuple #[.string ⟨#[]⟩,.string ⟨#[]⟩,.string ⟨#[]⟩,.bool false]) ?res rfl ⟨_,_,_,false,.inr ⟨rfl,fun a b ha hb=>by rw[<- HU.out,<- HV.out,ha,hb]at hn;simp at hn⟩,rfl,hB⟩
   case res=>simp[results,results160,go_sem]
  | true=>simp at hn
theorem qbH{a b:Rat}(da:QDig 200 a)(db:QDig 200 b)(w:World):Calls prog 160 #[Q a,Q b] w (ya0 (some a) (some b) w):=by
 have hB:=Ab w;have M1:=fun W=>zH a da W
 have M2:=fun W=>zH b db W
 unfold qa at M1 M2;have K1:=hid (zN (a.num*(b.den:Int)));have K2:=hid (zN (b.num*(a.den:Int)));have K3:=hid (zN ((a.den:Int)*(b.den:Int)));have M3:=fun W=>zan (qq a.num) (qq (b.den:Int)) (hid rfl) da.1 db.2 W
 have M4:=fun W=>zan (qq b.num) (qq (a.den:Int)) (hid rfl) db.1 da.2 W
 have M5:=fun W=>zan (qq (a.den:Int)) (qq (b.den:Int)) (hid rfl) da.2 db.2 W
 unfold zaA at M3 M4 M5;unfold Q at *;generalize (⟨(jn (a.num*(b.den:Int))).toArray⟩:ByteArray)=t1 at *;generalize qH (a.num*(b.den:Int))=e1 at *;generalize (⟨(jn (b.num*(a.den:Int))).toArray⟩:ByteArray)=t2 at *;generalize qH (b.num*(a.den:Int))=e2 at *;generalize (⟨(jn ((a.den:Int)*(b.den:Int))).toArray⟩:ByteArray)=t3 at *;generalize qH ((a.den:Int)*(b.den:Int))=e3 at *;clear da db;go_enter func160,ntmps160;go_wp2_with fail;have sB:=hB.size;refine za (fun X=>Aa w X/\Row X w.heap.size (oR a)/\Row X (w.heap.size+1) (oR b)) ⟨BW,RW8,RW8⟩ ?_;clear hB sB;rintro V1⟨hB,ra,rb⟩;have sa:=RF2 ra;have sb:=RF2 rb;refine(M1 _).mono ?_;rintro e W2⟨rfl,h1⟩;have stp:=St2 hB h1 ra rb;clear hB h1 ra sa rb sb;obtain⟨hB,ra,rb⟩:=stp;have sa:=RF2 ra;have sb:=RF2 rb;go_wp2_with fail;refine(M2 _).mono ?_;rintro e W3⟨rfl,h1⟩;have stp:=St2 hB h1 ra rb;clear hB h1 ra sa rb sb;obtain⟨hB,ra,rb⟩:=stp;have sa:=RF2 ra;have sb:=RF2 rb;go_wp2_with fail;refine(M3 _).mono ?_;rintro e W4⟨rfl,h1⟩;have stp:=St2 hB h1 ra rb;clear hB h1 ra sa rb sb;obtain⟨hB,ra,rb⟩:=stp;have sa:=RF2 ra;have sb:=RF2 rb;go_wp2_with fail;refine(M4 _).mono ?_;rintro e W5⟨rfl,h1⟩;have stp:=St2 hB h1 ra rb;clear hB h1 ra sa rb sb;obtain⟨hB,ra,rb⟩:=stp;have sa:=RF2 ra;have sb:=RF2 rb;go_wp2_with fail;clear ra sa rb sb;refine(M5 _).mono ?_;rintro e W6⟨rfl,h1⟩;have stp:=St0 hB h1;clear hB h1;have hB:=stp;clear stp
 go_upto_region 8 with fail;rcases K1.out with⟨rfl,f1,h1⟩|⟨n1,f1⟩
 all_goals have F1:=hid f1
 all_goals clear f1 K1
 rotate_left
 ·go_wp2;refine bodyPost_ret (v:=.tuple #[.string t1,.string t2,.string t3,.bool false]) ?res rfl ⟨_,_,_,false,.inr ⟨rfl,fun a' b' ha hb hz=>by cases ha;cases hb;exact F1.out hz.1⟩,rfl,hB⟩
  case res=>simp[results,results160,go_sem]
 have H1:=hid h1;clear h1;rcases K2.out with⟨rfl,f2,h2⟩|⟨n2,f2⟩
 all_goals have F2:=hid f2
 all_goals clear f2 K2
 rotate_left
 ·go_wp2;refine bodyPost_ret (v:=.tuple #[.string t1,.string t2,.string t3,.bool false]) ?res rfl ⟨_,_,_,false,.inr ⟨rfl,fun a' b' ha hb hz=>by cases ha;cases hb;exact F2.out hz.2.1⟩,rfl,hB⟩
  case res=>simp[results,results160,go_sem]
 have H2:=hid h2;clear h2;rcases K3.out with⟨rfl,f3,h3⟩|⟨n3,f3⟩
 all_goals have F3:=hid f3
 all_goals clear f3 K3
 rotate_left
 ·go_wp2;refine bodyPost_ret (v:=.tuple #[.string t1,.string t2,.string t3,.bool false]) ?res rfl ⟨_,_,_,false,.inr ⟨rfl,fun a' b' ha hb hz=>by cases ha;cases hb;exact F3.out hz.2.2⟩,rfl,hB⟩
  case res=>simp[results,results160,go_sem,n3]
 have H3:=hid h3;clear h3;go_wp2;refine bodyPost_ret (v:=.tuple #[.string t1,.string t2,.string t3,.bool true]) ?res rfl ⟨_,_,_,true,.inl ⟨a,b,rfl,rfl,rfl,F1.out,F2.out,F3.out,H1.out,H2.out,H3.out⟩,rfl,hB⟩
 case res=>simp[results,results160,go_sem]
theorem vb4{x y:Option Rat}(hx:OD x)(hy:OD y)(w:World):Calls prog 160 #[.agg #[.string (o1 x),.string (o2 x)],.agg #[.string (o1 y),.string (o2 y)]] w (ya0 x y w):=by
 cases x with
 | none=>exact yaH hx hy (by simp) w
 | some a =>
  cases y with
  | none=>exact yaH hx hy (by simp) w
  | some b=>exact qbH (hx a rfl) (hy b rfl) w
def RO(x:Option Rat)(w:World)(e:Ending)(w':World):Prop:=e=.returned (.tuple #[.agg #[.string (o1 x),.string (o2 x)],.int .i64 (oe x)])/\Aa w w'
theorem jc7{x y:Option Rat}(hx:OD x)(hy:OD y)(w:World):Calls prog 114 #[.agg #[.string (o1 x),.string (o2 x)],.agg #[.string (o1 y),.string (o2 y)]] w (RO (yv x y) w):=by
 have hB:=Ab w;have M1:=fun W=>vb4 hx hy W
 unfold ya0 at M1;unfold RO;generalize hr:yv x y=r at *;have HR:=hid hr;clear hr;have HXY:Hid (∀ a b,x=some a->y=some b->Fits (a.num*(b.den:Int))->Fits (b.num*(a.den:Int))->Fits ((a.den:Int)*(b.den:Int))->QDig 200 a/\QDig 200 b):=hid fun a b ha hb _ _ _=>⟨hx a ha,hy b hb⟩
 have HN:Hid ((∀ a b,x=some a->y=some b->¬ AF a b)->r=none):=hid fun h=>by rw[<- HR.out];cases x with|none=>rfl|some a=>cases y with|none=>rfl|some b=>exact if_neg (h a b rfl rfl)
 have HS:Hid (∀ a b,x=some a->y=some b->AF a b->r=some (a+b)):=hid fun a b ha hb h=>by subst ha hb;rw[<- HR.out];exact if_pos h
 generalize o1 x=x1 at *;generalize o2 x=x2 at *;generalize o1 y=y1 at *;generalize o2 y=y2 at *;clear hx hy;go_enter func114,ntmps114;go_wp2_with fail;have d0_o:w.heap.size<=w.heap.size+1+1:=by have:=hB.size;omega
 have sB:=hB.size;refine za (fun X=>Aa w X/\Row X (w.heap.size+1+1) oR0) ⟨BW,RW8⟩ ?_;clear hB sB;rintro V1⟨hB,ro⟩;have so:=vd ro;refine(M1 _).mono ?_;rintro e W2⟨u,v,d,ok,hk,rfl,h1⟩;have stp:=St1 hB h1 ro;clear hB h1 ro so;obtain⟨hB,ro⟩:=stp;have so:=vd ro;go_upto_region 2 with fail;have HKK:=hid hk;clear hk;rcases HKK.out with⟨a,b,ha,hb,rfl,fx,fy,fd,rfl,rfl,rfl⟩|⟨rfl,hk⟩
 ·have dg:=HXY.out a b ha hb fx fy fd;have M2:=fun W=>zcp (qq (a.num*(b.den:Int))) (qq (b.num*(a.den:Int))) (hid rfl) fx fy W
  unfold zaA at M2;have K:=hid (zN (a.num*(b.den:Int)+b.num*(a.den:Int)));generalize hsx:a.num*(b.den:Int)=sx at *;generalize hsy:b.num*(a.den:Int)=sy at *;generalize hsd:(a.den:Int)*(b.den:Int)=sd at *;generalize hsn:sx+sy=sn at *;have HSX:=hid hsx;have HSY:=hid hsy;have HSD:=hid hsd;have HSN:=hid hsn;clear hsx hsy hsd hsn;generalize (⟨(jn sn).toArray⟩:ByteArray)=tn at *;generalize qH sn=en at *;have HA:=hid ha;have HB:=hid hb;have FX:=hid fx;have FY:=hid fy;have FD:=hid fd;have DG:=hid dg;clear ha hb fx fy fd dg HKK;go_wp2_with fail;refine(M2 _).mono ?_;rintro e W3⟨rfl,h1⟩;have stp:=St1 hB h1 ro;clear hB h1 ro so;obtain⟨hB,ro⟩:=stp;have so:=vd ro;go_upto_region 5 with fail;rcases K.out with⟨rfl,fn,rfl⟩|⟨nn,fn⟩
  ·have AFh:AF a b:=⟨DG.out.1,DG.out.2,HSX.out ▸ FX.out,HSY.out ▸ FY.out,by rw[HSX.out,HSY.out,HSN.out];exact fn,HSD.out ▸ FD.out⟩
   obtain rfl:r=some (a+b):=HS.out a b HA.out HB.out AFh;have M3:=fun W=>vbw (qq sn) (qq sd) fn FD.out (by rw[<- HSD.out];exact BG (by have:=den_pos a;omega) (by have:=den_pos b;omega)) W
   have e9:Rat.divInt sn sd=a+b:=by rw[<- HSN.out,<- HSX.out,<- HSY.out,<- HSD.out];exact qaj a b
   rw[e9]at M3;unfold QOk Q at M3;clear e9 AFh fn;go_wp2_with fail;refine(M3 _).mono ?_;rintro e W4⟨rfl,h1⟩;have stp:=St1 hB h1 ro;clear hB h1 ro so;obtain⟨hB,ro⟩:=stp;have so:=vd ro;go_wp2_with fail;have sB:=hB.size;refine vc (fun X=>Aa w X/\Row X (w.heap.size+1+1) (oR (a+b))) ⟨BW,RW8⟩ ?_;clear ro so hB sB;rintro V5⟨hB,ro⟩;have so:=vd ro;refine bodyPost_ret (v:=.tuple #[Ac (a+b),.int .i64 0]) ?res rfl ⟨rfl,hB⟩
   case res=>simp[results,results114,go_sem,so]
  ·obtain rfl:r=none:=HN.out (fun a' b' ha hb h=>by cases HA.out.symm.trans ha;cases HB.out.symm.trans hb;exact fn (by rw[<- HSN.out,<- HSX.out,<- HSY.out];exact h.n));clear fn;go_wp2_with fail;have sB:=hB.size;refine vc (kq1 hB ro) ⟨BW,RW8⟩ ?_;unfold kq1;clear ro so hB sB;rintro V4⟨hB,ro⟩;have so:=vd ro;refine bodyPost_ret (v:=.tuple #[.agg #[.string ⟨#[]⟩,.string ⟨#[]⟩],.int .i64 40]) ?res rfl ⟨rfl,hB⟩
   case res=>simp[results,results114,go_sem,so]
 ·clear HKK;obtain rfl:r=none:=HN.out (fun a b ha hb h=>hk a b ha hb ⟨h.x,h.y,h.d⟩);clear hk;go_wp2_with fail;have sB:=hB.size;refine vc (kq1 hB ro) ⟨BW,RW8⟩ ?_;unfold kq1;clear ro so hB sB;rintro V3⟨hB,ro⟩;have so:=vd ro;refine bodyPost_ret (v:=.tuple #[.agg #[.string ⟨#[]⟩,.string ⟨#[]⟩],.int .i64 40]) ?res rfl ⟨rfl,hB⟩
  case res=>simp[results,results114,go_sem,so]
theorem zc8{x y:Option Rat}(hx:OD x)(hy:OD y)(w:World):Calls prog 149 #[.agg #[.string (o1 x),.string (o2 x)],.agg #[.string (o1 y),.string (o2 y)]] w (RO (jap x y) w):=by
 have hB:=Ab w;have M1:=fun W=>vb4 hx hy W
 unfold ya0 at M1;unfold RO;generalize hr:jap x y=r at *;have HR:=hid hr;clear hr;have HXY:Hid (∀ a b,x=some a->y=some b->Fits (a.num*(b.den:Int))->Fits (b.num*(a.den:Int))->Fits ((a.den:Int)*(b.den:Int))->QDig 200 a/\QDig 200 b):=hid fun a b ha hb _ _ _=>⟨hx a ha,hy b hb⟩
 have HN:Hid ((∀ a b,x=some a->y=some b->¬ SF a b)->r=none):=hid fun h=>by rw[<- HR.out];cases x with|none=>rfl|some a=>cases y with|none=>rfl|some b=>exact if_neg (h a b rfl rfl)
 have HS:Hid (∀ a b,x=some a->y=some b->SF a b->r=some (a-b)):=hid fun a b ha hb h=>by subst ha hb;rw[<- HR.out];exact if_pos h
 generalize o1 x=x1 at *;generalize o2 x=x2 at *;generalize o1 y=y1 at *;generalize o2 y=y2 at *;clear hx hy;go_enter func149,ntmps149;go_wp2_with fail;have d0_o:w.heap.size<=w.heap.size+1+1:=by have:=hB.size;omega
 have sB:=hB.size;refine za (fun X=>Aa w X/\Row X (w.heap.size+1+1) oR0) ⟨BW,RW8⟩ ?_;clear hB sB;rintro V1⟨hB,ro⟩;have so:=vd ro;refine(M1 _).mono ?_;rintro e W2⟨u,v,d,ok,hk,rfl,h1⟩;have stp:=St1 hB h1 ro;clear hB h1 ro so;obtain⟨hB,ro⟩:=stp;have so:=vd ro;go_upto_region 2 with fail;have HKK:=hid hk;clear hk;rcases HKK.out with⟨a,b,ha,hb,rfl,fx,fy,fd,rfl,rfl,rfl⟩|⟨rfl,hk⟩
 ·have dg:=HXY.out a b ha hb fx fy fd;have M2:=fun W=>qcq (qq (a.num*(b.den:Int))) (qq (b.num*(a.den:Int))) (hid rfl) fx fy W
  unfold zaA at M2;have K:=hid (zN (a.num*(b.den:Int)-b.num*(a.den:Int)));generalize hsx:a.num*(b.den:Int)=sx at *;generalize hsy:b.num*(a.den:Int)=sy at *;generalize hsd:(a.den:Int)*(b.den:Int)=sd at *;generalize hsn:sx-sy=sn at *;have HSX:=hid hsx;have HSY:=hid hsy;have HSD:=hid hsd;have HSN:=hid hsn;clear hsx hsy hsd hsn;generalize (⟨(jn sn).toArray⟩:ByteArray)=tn at *;generalize qH sn=en at *;have HA:=hid ha;have HB:=hid hb;have FX:=hid fx;have FY:=hid fy;have FD:=hid fd;have DG:=hid dg;clear ha hb fx fy fd dg HKK;go_wp2_with fail;refine(M2 _).mono ?_;rintro e W3⟨rfl,h1⟩;have stp:=St1 hB h1 ro;clear hB h1 ro so;obtain⟨hB,ro⟩:=stp;have so:=vd ro;go_upto_region 5 with fail;rcases K.out with⟨rfl,fn,rfl⟩|⟨nn,fn⟩
  ·have AFh:SF a b:=⟨DG.out.1,DG.out.2,HSX.out ▸ FX.out,HSY.out ▸ FY.out,by rw[HSX.out,HSY.out,HSN.out];exact fn,HSD.out ▸ FD.out⟩
   obtain rfl:r=some (a-b):=HS.out a b HA.out HB.out AFh;have M3:=fun W=>vbw (qq sn) (qq sd) fn FD.out (by rw[<- HSD.out];exact BG (by have:=den_pos a;omega) (by have:=den_pos b;omega)) W
   have e9:Rat.divInt sn sd=a-b:=by rw[<- HSN.out,<- HSX.out,<- HSY.out,<- HSD.out];exact yan a b
   rw[e9]at M3;unfold QOk Q at M3;clear e9 AFh fn;go_wp2_with fail;refine(M3 _).mono ?_;rintro e W4⟨rfl,h1⟩;have stp:=St1 hB h1 ro;clear hB h1 ro so;obtain⟨hB,ro⟩:=stp;have so:=vd ro;go_wp2_with fail;have sB:=hB.size;refine vc (fun X=>Aa w X/\Row X (w.heap.size+1+1) (oR (a-b))) ⟨BW,RW8⟩ ?_;clear ro so hB sB;rintro V5⟨hB,ro⟩;have so:=vd ro;refine bodyPost_ret (v:=.tuple #[Ac (a-b),.int .i64 0]) ?res rfl ⟨rfl,hB⟩
   case res=>simp[results,results149,go_sem,so]
  ·obtain rfl:r=none:=HN.out (fun a' b' ha hb h=>by cases HA.out.symm.trans ha;cases HB.out.symm.trans hb;exact fn (by rw[<- HSN.out,<- HSX.out,<- HSY.out];exact h.n));clear fn;go_wp2_with fail;have sB:=hB.size;refine vc (kq1 hB ro) ⟨BW,RW8⟩ ?_;unfold kq1;clear ro so hB sB;rintro V4⟨hB,ro⟩;have so:=vd ro;refine bodyPost_ret (v:=.tuple #[.agg #[.string ⟨#[]⟩,.string ⟨#[]⟩],.int .i64 40]) ?res rfl ⟨rfl,hB⟩
   case res=>simp[results,results149,go_sem,so]
 ·clear HKK;obtain rfl:r=none:=HN.out (fun a b ha hb h=>hk a b ha hb ⟨h.x,h.y,h.d⟩);clear hk;go_wp2_with fail;have sB:=hB.size;refine vc (kq1 hB ro) ⟨BW,RW8⟩ ?_;unfold kq1;clear ro so hB sB;rintro V3⟨hB,ro⟩;have so:=vd ro;refine bodyPost_ret (v:=.tuple #[.agg #[.string ⟨#[]⟩,.string ⟨#[]⟩],.int .i64 40]) ?res rfl ⟨rfl,hB⟩
  case res=>simp[results,results149,go_sem,so]
theorem ja9{x y:Option Rat}(hx:OD x)(hy:OD y)(hn:¬ (x.isSome=true/\y.isSome=true))(w:World):Calls prog 115 #[.agg #[.string (o1 x),.string (o2 x)],.agg #[.string (o1 y),.string (o2 y)]] w (RO (zv x y) w):=by
 have hB:=Ab w;have M1:=fun W=>zaz hx W
 have M2:=fun W=>zaz hy W
 unfold qa at M1 M2;unfold RO;generalize hr:zv x y=r at *;have HR:=hid hr;clear hr;have HN:Hid ((∀ a b,x=some a->y=some b->¬ MF a b)->r=none):=hid fun h=>by rw[<- HR.out];cases x with|none=>rfl|some a=>cases y with|none=>rfl|some b=>exact if_neg (h a b rfl rfl)
 generalize hu:x.isSome=u at *;generalize hv:y.isSome=v at *;have HU:=hid hu;have HV:=hid hv;clear hu hv hx hy;generalize o1 x=x1 at *;generalize o2 x=x2 at *;generalize o1 y=y1 at *;generalize o2 y=y2 at *;go_enter func115,ntmps115;go_wp2_with fail;have d0_o:w.heap.size<=w.heap.size+1+1:=by have:=hB.size;omega
 have sB:=hB.size;refine za (fun X=>Aa w X/\Row X w.heap.size (.cells #[.string x1,.string x2] 23)/\Row X (w.heap.size+1) (.cells #[.string y1,.string y2] 23)/\Row X (w.heap.size+1+1) oR0) ⟨BW,RW8,RW8,RW8⟩ ?_;clear hB sB;rintro V1⟨hB,ra,rb,ro⟩;have sa:=RF2 ra;have sb:=RF2 rb;have so:=vd ro;refine(M1 _).mono ?_;rintro e W2⟨rfl,h1⟩;have stp:=St3 hB h1 ra rb ro;clear hB h1 ra sa rb sb ro so;obtain⟨hB,ra,rb,ro⟩:=stp;have sa:=RF2 ra;have sb:=RF2 rb;have so:=vd ro;go_wp2_with fail;refine(M2 _).mono ?_;rintro e W3⟨rfl,h1⟩;have stp:=St3 hB h1 ra rb ro;clear hB h1 ra sa rb sb ro so;obtain⟨hB,ra,rb,ro⟩:=stp;have sa:=RF2 ra;have sb:=RF2 rb;have so:=vd ro;go_upto_region 3 with fail;obtain rfl:r=none:=HN.out fun a b ha hb=>absurd ⟨by rw[<- HU.out,ha];rfl,by rw[<- HV.out,hb];rfl⟩ hn
 cases u with
 | false =>
  go_wp2_with fail;have sB:=hB.size;refine vc (kq1 hB ro) ⟨BW,RW8⟩ ?_;unfold kq1;clear ra sa rb sb ro so hB sB;rintro V4⟨hB,ro⟩;have so:=vd ro;refine bodyPost_ret (v:=.tuple #[.agg #[.string ⟨#[]⟩,.string ⟨#[]⟩],.int .i64 40]) ?res rfl ⟨rfl,hB⟩
  case res=>simp[results,results115,go_sem,so]
 | true =>
  cases v with
  | false =>
   go_wp2_with fail;have sB:=hB.size;refine vc (kq1 hB ro) ⟨BW,RW8⟩ ?_;unfold kq1;clear ra sa rb sb ro so hB sB;rintro V4⟨hB,ro⟩;have so:=vd ro;refine bodyPost_ret (v:=.tuple #[.agg #[.string ⟨#[]⟩,.string ⟨#[]⟩],.int .i64 40]) ?res rfl ⟨rfl,hB⟩
   case res=>simp[results,results115,go_sem,so]
  | true=>exact absurd ⟨rfl,rfl⟩ hn
theorem kcp{a b:Rat}(da:QDig 200 a)(db:QDig 200 b)(w:World):Calls prog 115 #[Q a,Q b] w (RO (zv (some a) (some b)) w):=by
 have hB:=Ab w;have M1:=fun W=>zH a da W
 have M2:=fun W=>zH b db W
 unfold qa at M1 M2;have HZ:Hid (MF a b↔Fits (a.num*b.num)/\Fits ((a.den:Int)*(b.den:Int))):=hid ⟨fun h=>⟨h.n,h.d⟩,fun h=>⟨da,db,h.1,h.2⟩⟩;have K1:=hid (zN (a.num*b.num));have K2:=hid (zN ((a.den:Int)*(b.den:Int)));have M3:=fun W=>zan (qq a.num) (qq b.num) (hid rfl) da.1 db.1 W
 have M4:=fun W=>zan (qq (a.den:Int)) (qq (b.den:Int)) (hid rfl) da.2 db.2 W
 unfold zaA at M3 M4;unfold RO;generalize hr:zv (some a) (some b)=r at *;have HR:=hid hr;unfold Q at *;clear hr;generalize hsn:a.num*b.num=sn at *;generalize hsd:(a.den:Int)*(b.den:Int)=sd at *;have HSN:=hid hsn;have HSD:=hid hsd;clear hsn hsd da db;generalize (⟨(jn sn).toArray⟩:ByteArray)=t1 at *;generalize qH sn=e1 at *;generalize (⟨(jn sd).toArray⟩:ByteArray)=t2 at *;generalize qH sd=e2 at *;go_enter func115,ntmps115;go_wp2_with fail;have d0_o:w.heap.size<=w.heap.size+1+1:=by have:=hB.size;omega
 have sB:=hB.size;refine za (fun X=>Aa w X/\Row X w.heap.size (oR a)/\Row X (w.heap.size+1) (oR b)/\Row X (w.heap.size+1+1) oR0) ⟨BW,RW8,RW8,RW8⟩ ?_;clear hB sB;rintro V1⟨hB,ra,rb,ro⟩;have sa:=RF2 ra;have sb:=RF2 rb;have so:=vd ro;refine(M1 _).mono ?_;rintro e W2⟨rfl,h1⟩;have stp:=St3 hB h1 ra rb ro;clear hB h1 ra sa rb sb ro so;obtain⟨hB,ra,rb,ro⟩:=stp;have sa:=RF2 ra;have sb:=RF2 rb;have so:=vd ro;go_wp2_with fail;refine(M2 _).mono ?_;rintro e W3⟨rfl,h1⟩;have stp:=St3 hB h1 ra rb ro;clear hB h1 ra sa rb sb ro so;obtain⟨hB,ra,rb,ro⟩:=stp;have sa:=RF2 ra;have sb:=RF2 rb;have so:=vd ro;go_wp2_with fail;refine(M3 _).mono ?_;rintro e W4⟨rfl,h1⟩;have stp:=St3 hB h1 ra rb ro;clear hB h1 ra sa rb sb ro so;obtain⟨hB,ra,rb,ro⟩:=stp;have sa:=RF2 ra;have sb:=RF2 rb;have so:=vd ro;go_wp2_with fail;clear ra sa rb sb;refine(M4 _).mono ?_;rintro e W5⟨rfl,h1⟩;have stp:=St1 hB h1 ro;clear hB h1 ro so;obtain⟨hB,ro⟩:=stp;have so:=vd ro;go_upto_region 7 with fail;rcases K1.out with⟨rfl,f1,rfl⟩|⟨n1,f1⟩
 ·rcases K2.out with⟨rfl,f2,rfl⟩|⟨n2,f2⟩
  ·obtain rfl:r=some (a*b):=by rw[<- HR.out];exact if_pos (HZ.out.2 ⟨f1,f2⟩)
   have M5:=fun W=>vbw (qq sn) (qq sd) f1 f2 (by rw[<- HSD.out];exact BG (by have:=den_pos a;omega) (by have:=den_pos b;omega)) W
   have e9:Rat.divInt sn sd=a*b:=by rw[<- HSN.out,<- HSD.out];exact kam a b
   rw[e9]at M5;unfold QOk Q at M5;clear e9 f1 f2;go_wp2_with fail;refine(M5 _).mono ?_;rintro e W6⟨rfl,h1⟩;have stp:=St1 hB h1 ro;clear hB h1 ro so;obtain⟨hB,ro⟩:=stp;have so:=vd ro;go_wp2_with fail;have sB:=hB.size;refine vc (fun X=>Aa w X/\Row X (w.heap.size+1+1) (oR (a*b))) ⟨BW,RW8⟩ ?_;clear ro so hB sB;rintro V7⟨hB,ro⟩;have so:=vd ro;refine bodyPost_ret (v:=.tuple #[Ac (a*b),.int .i64 0]) ?res rfl ⟨rfl,hB⟩
   case res=>simp[results,results115,go_sem,so]
  ·obtain rfl:r=none:=by rw[<- HR.out];exact if_neg fun h=>f2 (HZ.out.1 h).2
   clear f1 f2;go_wp2_with fail;have sB:=hB.size;refine vc (kq1 hB ro) ⟨BW,RW8⟩ ?_;unfold kq1;clear ro so hB sB;rintro V6⟨hB,ro⟩;have so:=vd ro;refine bodyPost_ret (v:=.tuple #[.agg #[.string ⟨#[]⟩,.string ⟨#[]⟩],.int .i64 40]) ?res rfl ⟨rfl,hB⟩
   case res=>simp[results,results115,go_sem,so]
 ·obtain rfl:r=none:=by rw[<- HR.out];exact if_neg fun h=>f1 (HZ.out.1 h).1
  clear f1;go_wp2_with fail;have sB:=hB.size;refine vc (kq1 hB ro) ⟨BW,RW8⟩ ?_;unfold kq1;clear ro so hB sB;rintro V6⟨hB,ro⟩;have so:=vd ro;refine bodyPost_ret (v:=.tuple #[.agg #[.string ⟨#[]⟩,.string ⟨#[]⟩],.int .i64 40]) ?res rfl ⟨rfl,hB⟩
  case res=>simp[results,results115,go_sem,so]
theorem kc7{x y:Option Rat}(hx:OD x)(hy:OD y)(w:World):Calls prog 115 #[.agg #[.string (o1 x),.string (o2 x)],.agg #[.string (o1 y),.string (o2 y)]] w (RO (zv x y) w):=by
 cases x with
 | none=>exact ja9 hx hy (by simp) w
 | some a =>
  cases y with
  | none=>exact ja9 hx hy (by simp) w
  | some b=>exact kcp (hx a rfl) (hy b rfl) w
theorem kj{a w w':World}{row:Option Nat}(h:a.grownBy w row)(k:w.grownBy w' row):a.grownBy w' row :=
 ⟨k.os.trans h.os,k.tape.trans h.tape,k.output.trans h.output,Bb h.size k.size,fun i hi hr=>(k.block i (AG hi h.size) hr).trans (h.block i hi hr)⟩
theorem vae{w w':World}(row:Option Nat)(hb:Aa w w'):w.grownBy w' row:=⟨hb.os,hb.tape,hb.output,hb.size,fun i hi _=>hb.block i hi⟩
theorem kbW{a w:World}{r b i:Nat}{v:Value}(h:a.grownBy w (some r))(hb:a.heap.size<=b):a.grownBy (w.setCell ⟨b,i,none⟩ v) (some r) :=
 ⟨h.os,h.tape,h.output,by simpa[World.setCell]using h.size,fun k hk hr=>(Below.heap_setCell _ _ _ _ (fun e=>by subst e;omega)).trans (h.block k hk hr)⟩
theorem ybW{a w:World}{r i:Nat}{v:Value}(h:a.grownBy w (some r)):a.grownBy (w.setCell ⟨r,i,none⟩ v) (some r) :=
 ⟨h.os,h.tape,h.output,by simpa[World.setCell]using h.size,fun k hk hr=>(Below.heap_setCell _ _ _ _ (fun e=>hr (by simp[e]))).trans (h.block k hk hr)⟩
theorem vT{a w:World}{row:Option Nat}(h:a.grownBy w row)(o:Obj):a.grownBy (w.alloc o) row:=kj h (World.grownBy_alloc w o row)
theorem qbD{a w:World}{row:Option Nat}(h:a.grownBy w row):a.grownBy w.drew row:=⟨h.os,h.tape,h.output,h.size,h.block⟩
theorem zbi{a w:World}{row:Option Nat}(h:a.grownBy w row)(n:Nat):a.grownBy (w.drewN n) row:=⟨h.os,h.tape,h.output,h.size,h.block⟩
theorem jh{w w':World}{row:Option Nat}(h:w.drew.grownBy w' row):w.grownBy w' row:=⟨h.os,h.tape,h.output,h.size,h.block⟩
theorem vC{a X W:World}{row:Option Nat}(h:a.grownBy X row)(h1:Below X.heap.size X W):a.grownBy W row:=kj h (vae row h1)
theorem zu{a X W:World}{r:Nat}(h:Below a.heap.size a X)(hg:X.grownBy W (some r))(hr:a.heap.size<=r):Below a.heap.size a W:=h.grown hg h.size (fun k hk=>by cases hk;exact hr)
theorem Row.grown{a w:World}{r b:Nat}{o:Obj}(h:Row a b o)(hg:a.grownBy w (some r))(hne:b≠r):Row w b o:=⟨AG h.1 hg.size,(hg.block b h.1 (fun e=>hne (by simpa using e))).trans h.2⟩
abbrev Aw:=@Row.grown
theorem UAt.grown{T U:TypeId}{W W':World}{p:En}{l:List RT}{r:Nat}{vs:Array Value}(h:UAt T W p l)(hg:W.grownBy W' (some r))(hr:Row W r (.cells vs U))(hne:U≠T):UAt T W' p l:=by
 rcases h with h|⟨g,cur,e,h1,h2⟩
 ·exact .inl h
 ·refine .inr ⟨g,cur,e,Aw h1 hg (fun e2 => ?_),h2⟩;subst e2;have:=h1.2.symm.trans hr.2;injection this with this;injection this with _ h4;exact hne h4.symm
theorem zJ{n₀:Nat}{T:TypeId}{k n r:Nat}{v:Value}{xs:List Value}{A B:World}(h:A.ownsRow n₀ T k v n xs)(hg:A.grownBy B (some r))(hr:r<n₀):B.ownsRow n₀ T k v n xs :=
 ⟨h.1,h.2.elim .inl fun⟨g,cap,cur,e,h0,h1,rest⟩=>.inr ⟨g,cap,cur,e,h0,(hg.block g (Ag.1 h1).1 (fun e2=>by simp at e2;omega)).trans h1,rest⟩⟩
theorem GW{P:Prop}(h:P:=by repeat(first|(with_reducible assumption)|(with_reducible exact World.grownBy.refl _ _)|(with_reducible refine qbD ?_)|(with_reducible refine zbi ?_ _)|(with_reducible refine vT ?_ _)|(with_reducible refine ybW ?_)|(with_reducible refine kbW ?_ Ek))):P:=h
theorem Sh1{A X W:World}{r:Nat}{b0:Nat}{o0:Obj}(hB:A.grownBy X (some r))(hg:X.grownBy W (some r))(r0:Row X b0 o0)(n0:b0≠r:=by omega):A.grownBy W (some r)/\Row W b0 o0:=⟨kj hB hg,r0.grown hg n0⟩
theorem Sg2{A X W:World}{r:Nat}{b0 b1:Nat}{o0 o1:Obj}(hB:A.grownBy X (some r))(h1:Below X.heap.size X W)(r0:Row X b0 o0)(r1:Row X b1 o1):A.grownBy W (some r)/\Row W b0 o0/\Row W b1 o1:=⟨vC hB h1,r0.below h1,r1.below h1⟩
theorem Sg3{A X W:World}{r:Nat}{b0 b1 b2:Nat}{o0 o1 o2:Obj}(hB:A.grownBy X (some r))(h1:Below X.heap.size X W)(r0:Row X b0 o0)(r1:Row X b1 o1)(r2:Row X b2 o2):A.grownBy W (some r)/\Row W b0 o0/\Row W b1 o1/\Row W b2 o2:=⟨vC hB h1,r0.below h1,r1.below h1,r2.below h1⟩
theorem Sh3{A X W:World}{r:Nat}{b0 b1 b2:Nat}{o0 o1 o2:Obj}(hB:A.grownBy X (some r))(hg:X.grownBy W (some r))(r0:Row X b0 o0)(r1:Row X b1 o1)(r2:Row X b2 o2)(n0:b0≠r:=by omega)(n1:b1≠r:=by omega)(n2:b2≠r:=by omega):A.grownBy W (some r)/\Row W b0 o0/\Row W b1 o1/\Row W b2 o2:=⟨kj hB hg,r0.grown hg n0,r1.grown hg n1,r2.grown hg n2⟩
theorem Sh4{A X W:World}{r:Nat}{b0 b1 b2 b3:Nat}{o0 o1 o2 o3:Obj}(hB:A.grownBy X (some r))(hg:X.grownBy W (some r))(r0:Row X b0 o0)(r1:Row X b1 o1)(r2:Row X b2 o2)(r3:Row X b3 o3)(n0:b0≠r:=by omega)(n1:b1≠r:=by omega)(n2:b2≠r:=by omega)(n3:b3≠r:=by omega):A.grownBy W (some r)/\Row W b0 o0/\Row W b1 o1/\Row W b2 o2/\Row W b3 o3:=⟨kj hB hg,r0.grown hg n0,r1.grown hg n1,r2.grown hg n2,r3.grown hg n3⟩
theorem Sg5{A X W:World}{r:Nat}{b0 b1 b2 b3 b4:Nat}{o0 o1 o2 o3 o4:Obj}(hB:A.grownBy X (some r))(h1:Below X.heap.size X W)(r0:Row X b0 o0)(r1:Row X b1 o1)(r2:Row X b2 o2)(r3:Row X b3 o3)(r4:Row X b4 o4):A.grownBy W (some r)/\Row W b0 o0/\Row W b1 o1/\Row W b2 o2/\Row W b3 o3/\Row W b4 o4:=⟨vC hB h1,r0.below h1,r1.below h1,r2.below h1,r3.below h1,r4.below h1⟩
theorem Sj5{A X W:World}{r:Nat}{b0 b1 b2 b3 b4:Nat}{o0 o1 o2 o3 o4:Obj}(hB:Below A.heap.size A X)(hg:X.grownBy W (some r))(r0:Row X b0 o0)(r1:Row X b1 o1)(r2:Row X b2 o2)(r3:Row X b3 o3)(r4:Row X b4 o4)(hr:A.heap.size<=r:=by omega)(n0:b0≠r:=by omega)(n1:b1≠r:=by omega)(n2:b2≠r:=by omega)(n3:b3≠r:=by omega)(n4:b4≠r:=by omega):Below A.heap.size A W/\Row W b0 o0/\Row W b1 o1/\Row W b2 o2/\Row W b3 o3/\Row W b4 o4:=⟨zu hB hg hr,r0.grown hg n0,r1.grown hg n1,r2.grown hg n2,r3.grown hg n3,r4.grown hg n4⟩
theorem Sj6{A X W:World}{r:Nat}{b0 b1 b2 b3 b4 b5:Nat}{o0 o1 o2 o3 o4 o5:Obj}(hB:Below A.heap.size A X)(hg:X.grownBy W (some r))(r0:Row X b0 o0)(r1:Row X b1 o1)(r2:Row X b2 o2)(r3:Row X b3 o3)(r4:Row X b4 o4)(r5:Row X b5 o5)(hr:A.heap.size<=r:=by omega)(n0:b0≠r:=by omega)(n1:b1≠r:=by omega)(n2:b2≠r:=by omega)(n3:b3≠r:=by omega)(n4:b4≠r:=by omega)(n5:b5≠r:=by omega):Below A.heap.size A W/\Row W b0 o0/\Row W b1 o1/\Row W b2 o2/\Row W b3 o3/\Row W b4 o4/\Row W b5 o5:=⟨zu hB hg hr,r0.grown hg n0,r1.grown hg n1,r2.grown hg n2,r3.grown hg n3,r4.grown hg n4,r5.grown hg n5⟩
theorem Sj7{A X W:World}{r:Nat}{b0 b1 b2 b3 b4 b5 b6:Nat}{o0 o1 o2 o3 o4 o5 o6:Obj}(hB:Below A.heap.size A X)(hg:X.grownBy W (some r))(r0:Row X b0 o0)(r1:Row X b1 o1)(r2:Row X b2 o2)(r3:Row X b3 o3)(r4:Row X b4 o4)(r5:Row X b5 o5)(r6:Row X b6 o6)(hr:A.heap.size<=r:=by omega)(n0:b0≠r:=by omega)(n1:b1≠r:=by omega)(n2:b2≠r:=by omega)(n3:b3≠r:=by omega)(n4:b4≠r:=by omega)(n5:b5≠r:=by omega)(n6:b6≠r:=by omega):Below A.heap.size A W/\Row W b0 o0/\Row W b1 o1/\Row W b2 o2/\Row W b3 o3/\Row W b4 o4/\Row W b5 o5/\Row W b6 o6:=⟨zu hB hg hr,r0.grown hg n0,r1.grown hg n1,r2.grown hg n2,r3.grown hg n3,r4.grown hg n4,r5.grown hg n5,r6.grown hg n6⟩
theorem Sg8{A X W:World}{r:Nat}{b0 b1 b2 b3 b4 b5 b6 b7:Nat}{o0 o1 o2 o3 o4 o5 o6 o7:Obj}(hB:A.grownBy X (some r))(h1:Below X.heap.size X W)(r0:Row X b0 o0)(r1:Row X b1 o1)(r2:Row X b2 o2)(r3:Row X b3 o3)(r4:Row X b4 o4)(r5:Row X b5 o5)(r6:Row X b6 o6)(r7:Row X b7 o7):A.grownBy W (some r)/\Row W b0 o0/\Row W b1 o1/\Row W b2 o2/\Row W b3 o3/\Row W b4 o4/\Row W b5 o5/\Row W b6 o6/\Row W b7 o7:=⟨vC hB h1,r0.below h1,r1.below h1,r2.below h1,r3.below h1,r4.below h1,r5.below h1,r6.below h1,r7.below h1⟩
theorem ycY{A X W:World}{r:Nat}{b0 b1 b2 b3 b4 b5 b6 b7 b8 b9:Nat}{o0 o1 o2 o3 o4 o5 o6 o7 o8 o9:Obj}(hB:A.grownBy X (some r))(h1:Below X.heap.size X W)(r0:Row X b0 o0)(r1:Row X b1 o1)(r2:Row X b2 o2)(r3:Row X b3 o3)(r4:Row X b4 o4)(r5:Row X b5 o5)(r6:Row X b6 o6)(r7:Row X b7 o7)(r8:Row X b8 o8)(r9:Row X b9 o9):A.grownBy W (some r)/\Row W b0 o0/\Row W b1 o1/\Row W b2 o2/\Row W b3 o3/\Row W b4 o4/\Row W b5 o5/\Row W b6 o6/\Row W b7 o7/\Row W b8 o8/\Row W b9 o9:=⟨vC hB h1,r0.below h1,r1.below h1,r2.below h1,r3.below h1,r4.below h1,r5.below h1,r6.below h1,r7.below h1,r8.below h1,r9.below h1⟩
end Go.Proofs.YtdiecekagiledaaGreatDoor
namespace Go.Proofs.YtdiecekagiledaaGreatDoor
open Go Go.RowKit Go.Lib Go.Shelf Go.Proofs.Tryz
attribute [local go_sem] yg
def CalcR(bc:Nat)(f:Bool)(x:Option Rat)(w:World)(e:Ending)(w':World):Prop:=e=.returned (.agg #[.string (o1 x),.string (o2 x)])/\Row w' bc (.cells #[.bool f] 77)/\w.grownBy w' (some bc)
theorem kb3(bc:Nat)(f:Bool)(q:Rat)(w:World)(rk:Row w bc (.cells #[.bool f] 77)):Calls prog 113 #[.pointer (some ⟨bc,0,none⟩),.agg #[.string (o1 (some q)),.string (o2 (some q))],.int .i64 0] w (CalcR bc f (some q) w):=by
 have hB:w.grownBy w (some bc):=World.grownBy.refl _ _;have hbc:=rk.1;unfold CalcR;generalize o1 (some q)=x1 at *;generalize o2 (some q)=x2 at *;have sk:=jz rk;go_enter func113,ntmps113;go_wp2_with fail;have sB:=hB.size;refine vc (fun X=>w.grownBy X (some bc)/\Row X bc (.cells #[.bool f] 77)/\Row X (w.heap.size+1) (.cells #[.string x1,.string x2] 23)) ⟨GW,RW8,RW8⟩ ?_;clear rk sk hB sB;rintro V1⟨hB,rk,ro⟩;have sk:=jz rk;have so:=vd ro;refine bodyPost_ret (v:=.agg #[.string x1,.string x2]) ?res rfl ⟨rfl,rk,hB⟩
 case res=>simp[results,results113,go_sem,so]
theorem jb3(bc:Nat)(f:Bool)(w:World)(rk:Row w bc (.cells #[.bool f] 77)):Calls prog 113 #[.pointer (some ⟨bc,0,none⟩),.agg #[.string (o1 none),.string (o2 none)],.int .i64 40] w (CalcR bc true none w):=by
 have hB:w.grownBy w (some bc):=World.grownBy.refl _ _;have hbc:=rk.1;unfold CalcR;unfold o1 o2;have sk:=jz rk;go_enter func113,ntmps113;go_wp2_with fail;have sB:=hB.size;refine vc (fun X=>w.grownBy X (some bc)/\Row X bc (.cells #[.bool true] 77)/\Row X (w.heap.size+1) oR0) ⟨GW,RW8,RW8⟩ ?_;clear rk sk hB sB;rintro V1⟨hB,rk,ro⟩;have sk:=jz rk;have so:=vd ro;refine bodyPost_ret (v:=.agg #[.string ⟨#[]⟩,.string ⟨#[]⟩]) ?res rfl ⟨rfl,rk,hB⟩
 case res=>simp[results,results113,go_sem,so]
theorem kbm(bc:Nat)(f:Bool)(x:Option Rat)(w:World)(rk:Row w bc (.cells #[.bool f] 77)):Calls prog 113 #[.pointer (some ⟨bc,0,none⟩),.agg #[.string (o1 x),.string (o2 x)],.int .i64 (oe x)] w (CalcR bc (f||x.isNone) x w):=by
 cases x with
 | none=>rw[show(f||(none:Option Rat).isNone)=true by simp];exact jb3 bc f w rk
 | some q=>rw[show(f||(some q).isNone)=f by simp];exact kb3 bc f q w rk
theorem yam(bc:Nat)(f:Bool){x y:Option Rat}(hx:OD x)(hy:OD y)(w:World)(rk:Row w bc (.cells #[.bool f] 77)):Calls prog 63 #[.pointer (some ⟨bc,0,none⟩),.agg #[.string (o1 x),.string (o2 x)],.agg #[.string (o1 y),.string (o2 y)]] w (CalcR bc (f||(yv x y).isNone) (yv x y) w):=by
 have hB:w.grownBy w (some bc):=World.grownBy.refl _ _;have hbc:=rk.1;have M:=fun W=>jc7 hx hy W
 have MT:=fun W (h:Row W bc (.cells #[.bool f] 77))=>kbm bc f (yv x y) W h
 unfold RO at M;unfold CalcR at *;generalize hr:yv x y=r at *;clear hr;generalize (f||r.isNone)=f2 at *;generalize o1 x=x1 at *;generalize o2 x=x2 at *;generalize o1 y=y1 at *;generalize o2 y=y2 at *;generalize o1 r=r1 at *;generalize o2 r=r2 at *;generalize oe r=re at *;clear hx hy;have sk:=jz rk;go_enter func63,ntmps63;go_wp2_with fail;have dk_o:bc<w.heap.size+1+1:=oo
 have d0_o:w.heap.size<=w.heap.size+1+1:=by have:=hB.size;omega
 have sB:=hB.size;refine za (fun X=>w.grownBy X (some bc)/\Row X bc (.cells #[.bool f] 77)/\Row X (w.heap.size+1+1) oR0) ⟨GW,RW8,RW8⟩ ?_;clear rk sk hB sB;rintro V1⟨hB,rk,ro⟩;have sk:=jz rk;have so:=vd ro;refine(M _).mono ?_;rintro e W2⟨rfl,h1⟩;have stp:=Sg2 hB h1 rk ro;clear hB h1 rk sk ro so;obtain⟨hB,rk,ro⟩:=stp;have sk:=jz rk;have so:=vd ro;go_wp2_with fail;refine(MT _ rk).mono ?_;rintro e W3⟨rfl,rk9,hg⟩;have stp:=Sh1 hB hg ro;clear hB hg rk sk ro so;obtain⟨hB,ro⟩:=stp;have rk:=rk9;clear rk9;have sk:=jz rk;have so:=vd ro;go_wp2_with fail;have sB:=hB.size;refine vc (fun X=>w.grownBy X (some bc)/\Row X bc (.cells #[.bool f2] 77)/\Row X (w.heap.size+1+1) (.cells #[.string r1,.string r2] 23)) ⟨GW,RW8,RW8⟩ ?_;clear rk sk ro so hB sB;rintro V4⟨hB,rk,ro⟩;have sk:=jz rk;have so:=vd ro;refine bodyPost_ret (v:=.agg #[.string r1,.string r2]) ?res rfl ⟨rfl,rk,hB⟩
 case res=>simp[results,results63,go_sem,so]
theorem ycu(bc:Nat)(f:Bool){x y:Option Rat}(hx:OD x)(hy:OD y)(w:World)(rk:Row w bc (.cells #[.bool f] 77)):Calls prog 100 #[.pointer (some ⟨bc,0,none⟩),.agg #[.string (o1 x),.string (o2 x)],.agg #[.string (o1 y),.string (o2 y)]] w (CalcR bc (f||(jap x y).isNone) (jap x y) w):=by
 have hB:w.grownBy w (some bc):=World.grownBy.refl _ _;have hbc:=rk.1;have M:=fun W=>zc8 hx hy W
 have MT:=fun W (h:Row W bc (.cells #[.bool f] 77))=>kbm bc f (jap x y) W h
 unfold RO at M;unfold CalcR at *;generalize hr:jap x y=r at *;clear hr;generalize (f||r.isNone)=f2 at *;generalize o1 x=x1 at *;generalize o2 x=x2 at *;generalize o1 y=y1 at *;generalize o2 y=y2 at *;generalize o1 r=r1 at *;generalize o2 r=r2 at *;generalize oe r=re at *;clear hx hy;have sk:=jz rk;go_enter func100,ntmps100;go_wp2_with fail;have dk_o:bc<w.heap.size+1+1:=oo
 have d0_o:w.heap.size<=w.heap.size+1+1:=by have:=hB.size;omega
 have sB:=hB.size;refine za (fun X=>w.grownBy X (some bc)/\Row X bc (.cells #[.bool f] 77)/\Row X (w.heap.size+1+1) oR0) ⟨GW,RW8,RW8⟩ ?_;clear rk sk hB sB;rintro V1⟨hB,rk,ro⟩;have sk:=jz rk;have so:=vd ro;refine(M _).mono ?_;rintro e W2⟨rfl,h1⟩;have stp:=Sg2 hB h1 rk ro;clear hB h1 rk sk ro so;obtain⟨hB,rk,ro⟩:=stp;have sk:=jz rk;have so:=vd ro;go_wp2_with fail;refine(MT _ rk).mono ?_;rintro e W3⟨rfl,rk9,hg⟩;have stp:=Sh1 hB hg ro;clear hB hg rk sk ro so;obtain⟨hB,ro⟩:=stp;have rk:=rk9;clear rk9;have sk:=jz rk;have so:=vd ro;go_wp2_with fail;have sB:=hB.size;refine vc (fun X=>w.grownBy X (some bc)/\Row X bc (.cells #[.bool f2] 77)/\Row X (w.heap.size+1+1) (.cells #[.string r1,.string r2] 23)) ⟨GW,RW8,RW8⟩ ?_;clear rk sk ro so hB sB;rintro V4⟨hB,rk,ro⟩;have sk:=jz rk;have so:=vd ro;refine bodyPost_ret (v:=.agg #[.string r1,.string r2]) ?res rfl ⟨rfl,rk,hB⟩
 case res=>simp[results,results100,go_sem,so]
theorem qaH(bc:Nat)(f:Bool){x y:Option Rat}(hx:OD x)(hy:OD y)(w:World)(rk:Row w bc (.cells #[.bool f] 77)):Calls prog 64 #[.pointer (some ⟨bc,0,none⟩),.agg #[.string (o1 x),.string (o2 x)],.agg #[.string (o1 y),.string (o2 y)]] w (CalcR bc (f||(zv x y).isNone) (zv x y) w):=by
 have hB:w.grownBy w (some bc):=World.grownBy.refl _ _;have hbc:=rk.1;have M:=fun W=>kc7 hx hy W
 have MT:=fun W (h:Row W bc (.cells #[.bool f] 77))=>kbm bc f (zv x y) W h
 unfold RO at M;unfold CalcR at *;generalize hr:zv x y=r at *;clear hr;generalize (f||r.isNone)=f2 at *;generalize o1 x=x1 at *;generalize o2 x=x2 at *;generalize o1 y=y1 at *;generalize o2 y=y2 at *;generalize o1 r=r1 at *;generalize o2 r=r2 at *;generalize oe r=re at *;clear hx hy;have sk:=jz rk;go_enter func64,ntmps64;go_wp2_with fail;have dk_o:bc<w.heap.size+1+1:=oo
 have d0_o:w.heap.size<=w.heap.size+1+1:=by have:=hB.size;omega
 have sB:=hB.size;refine za (fun X=>w.grownBy X (some bc)/\Row X bc (.cells #[.bool f] 77)/\Row X (w.heap.size+1+1) oR0) ⟨GW,RW8,RW8⟩ ?_;clear rk sk hB sB;rintro V1⟨hB,rk,ro⟩;have sk:=jz rk;have so:=vd ro;refine(M _).mono ?_;rintro e W2⟨rfl,h1⟩;have stp:=Sg2 hB h1 rk ro;clear hB h1 rk sk ro so;obtain⟨hB,rk,ro⟩:=stp;have sk:=jz rk;have so:=vd ro;go_wp2_with fail;refine(MT _ rk).mono ?_;rintro e W3⟨rfl,rk9,hg⟩;have stp:=Sh1 hB hg ro;clear hB hg rk sk ro so;obtain⟨hB,ro⟩:=stp;have rk:=rk9;clear rk9;have sk:=jz rk;have so:=vd ro;go_wp2_with fail;have sB:=hB.size;refine vc (fun X=>w.grownBy X (some bc)/\Row X bc (.cells #[.bool f2] 77)/\Row X (w.heap.size+1+1) (.cells #[.string r1,.string r2] 23)) ⟨GW,RW8,RW8⟩ ?_;clear rk sk ro so hB sB;rintro V4⟨hB,rk,ro⟩;have sk:=jz rk;have so:=vd ro;refine bodyPost_ret (v:=.agg #[.string r1,.string r2]) ?res rfl ⟨rfl,rk,hB⟩
 case res=>simp[results,results64,go_sem,so]
theorem CalcR.quiet{bc:Nat}{f:Bool}{x:Option Rat}{w w':World}{e:Ending}(rk:Row w bc (.cells #[.bool f] 77))(h:CalcR bc f x w e w'):e=.returned (.agg #[.string (o1 x),.string (o2 x)])/\Aa w w' :=
 ⟨h.1,h.2.2.os,h.2.2.tape,h.2.2.output,h.2.2.size,fun i hi=>by
  by_cases hb:i=bc
  ·rw[hb,h.2.1.2,rk.2]
  ·exact h.2.2.block i hi fun k=>hb (by simpa using k)⟩
theorem vb2(bc:Nat)(f:Bool){a:Rat}(da:QDig 200 a)(h:0<=a)(w:World)(rk:Row w bc (.cells #[.bool f] 77)):Calls prog 65 #[.pointer (some ⟨bc,0,none⟩),Q a] w (QIs (vj a) w):=by
 have hB:=Ab w;have hbc:=rk.1;have M0:=fun W=>yG (n:=0) dd zG W
 have M:=fun W=>yaa a 0 da kaZ W
 unfold jB at M;have hc:0<=zE a 0:=qE.2 h;rw[kax h];unfold QIs at *;unfold Q at *;generalize zE a 0=g at *;have hd:decide (g<0)=false:=decide_eq_false oo;clear hc h da;generalize (0:Rat)=z at *;have sk:=RF1 rk;go_enter func65,ntmps65;go_wp2_with fail;have dk_o:bc<w.heap.size+1:=oo
 have d0_o:w.heap.size<=w.heap.size+1:=by have:=hB.size;omega
 have sB:=hB.size;refine zi (kp1 hB rk fun X=>Row X w.heap.size (oR a)/\Row X (w.heap.size+1) oR0) ⟨BW,RW8,RW8,RW8⟩ ?_;unfold kp1;clear rk sk hB sB;rintro V1⟨hB,rk,rx,ro⟩;have sk:=RF1 rk;have sx:=RF2 rx;have so:=vd ro;refine qe 4 [.val (Ac a),.val (Ac z),.val (.int .i64 g),.val (.bool false)] kr9 kr9 trivial (iC (qi1 fun X h=>RF2 (Ae rx h)) (iC (qi2 fun X h=>M0 X) (iC (qi2 fun X h=>M X) (iC (qif hd) trivial)))) ?_;rintro W h1;have stp:=St3 hB h1 rk rx ro;clear hB h1 rk sk rx sx ro so;obtain⟨hB,rk,rx,ro⟩:=stp;have sk:=RF1 rk;have sx:=RF2 rx;have so:=vd ro;simp only[je,Ah,Ak,Al,AB,AI,AC,AH];go_wp2_with fail;have sB:=hB.size;refine vc (kp2 hB rk rx fun X=>Row X (w.heap.size+1) (oR a)) ⟨BW,RW8,RW8,RW8⟩ ?_;unfold kp2;clear rk sk rx sx ro so hB sB;rintro V2⟨hB,rk,rx,ro⟩;have sk:=RF1 rk;have sx:=RF2 rx;have so:=vd ro;refine bodyPost_ret (v:=Ac a) ?res rfl ⟨rfl,hB⟩
 case res=>simp[results,results65,go_sem,so]
theorem yb2(bc:Nat)(f:Bool){a:Rat}(da:QDig 200 a)(h:a<0)(w:World)(rk:Row w bc (.cells #[.bool f] 77)):Calls prog 65 #[.pointer (some ⟨bc,0,none⟩),Q a] w (QIs (vj a) w):=by
 have hB:=Ab w;have hbc:=rk.1;have M0:=fun W=>yG (n:=0) dd zG W
 have M:=fun W=>yaa a 0 da kaZ W
 unfold jB at M;have hc:zE a 0<0:=kbe.2 h;have MS:=fun W (rk:Row W bc (.cells #[.bool f] 77))=>(ycu bc f (Cc kaZ) (Cc da) W rk).mono fun e w2 k=>CalcR.quiet rk (by rw[qaI (SF.neg da)]at k;simpa using k)
 rw[jax h];unfold QIs at *;unfold Q at *;unfold o1 o2 at MS;dsimp only at MS;generalize zE a 0=g at *;have hd:decide (g<0)=true:=decide_eq_true oo;clear hc h da;generalize 0-a=y at *;generalize (0:Rat)=z at *;have sk:=RF1 rk;go_enter func65,ntmps65;go_wp2_with fail;have dk_o:bc<w.heap.size+1:=oo
 have d0_o:w.heap.size<=w.heap.size+1:=by have:=hB.size;omega
 have sB:=hB.size;refine zi (kp1 hB rk fun X=>Row X w.heap.size (oR a)/\Row X (w.heap.size+1) oR0) ⟨BW,RW8,RW8,RW8⟩ ?_;unfold kp1;clear rk sk hB sB;rintro V1⟨hB,rk,rx,ro⟩;have sk:=RF1 rk;have sx:=RF2 rx;have so:=vd ro;refine qe 4 [.val (Ac a),.val (Ac z),.val (.int .i64 g),.val (.bool true)] kr9 kr9 trivial (iC (qi1 fun X h=>RF2 (Ae rx h)) (iC (qi2 fun X h=>M0 X) (iC (qi2 fun X h=>M X) (iC (qif hd) trivial)))) ?_;rintro W h1;have stp:=St3 hB h1 rk rx ro;clear hB h1 rk sk rx sx ro so;obtain⟨hB,rk,rx,ro⟩:=stp;have sk:=RF1 rk;have sx:=RF2 rx;have so:=vd ro;simp only[je,Ah,Ak,Al,AB,AI,AC,AH];go_wp2_with fail;refine qe 4 [.val (.pointer (some ⟨bc,0,none⟩)),.val (Ac z),.val (Ac a),.val (Ac y)] kr9 kr9 trivial (iC qi0 (iC (qi2 fun X h=>M0 X) (iC (qi1 fun X h=>RF2 (Ae rx h)) (iC (qi2 fun X h=>MS X (Ae rk h)) trivial)))) ?_;rintro W h1;have stp:=St3 hB h1 rk rx ro;clear hB h1 rk sk rx sx ro so;obtain⟨hB,rk,rx,ro⟩:=stp;have sk:=RF1 rk;have sx:=RF2 rx;have so:=vd ro
 simp only[je,Ah,Ak,Al,AB,AI,AC,AH];go_wp2_with fail;have sB:=hB.size;refine vc (kp2 hB rk rx fun X=>Row X (w.heap.size+1) (oR y)) ⟨BW,RW8,RW8,RW8⟩ ?_;unfold kp2;clear rk sk rx sx ro so hB sB;rintro V2⟨hB,rk,rx,ro⟩;have sk:=RF1 rk;have sx:=RF2 rx;have so:=vd ro;refine bodyPost_ret (v:=Ac y) ?res rfl ⟨rfl,hB⟩
 case res=>simp[results,results65,go_sem,so]
theorem jbv(bc:Nat)(f:Bool){a:Rat}(da:QDig 200 a)(w:World)(rk:Row w bc (.cells #[.bool f] 77)):Calls prog 65 #[.pointer (some ⟨bc,0,none⟩),Q a] w (QIs (vj a) w):=by
 by_cases h:a<0
 ·exact yb2 bc f da h w rk
 ·exact vb2 bc f da (by grind) w rk
end Go.Proofs.YtdiecekagiledaaGreatDoor
