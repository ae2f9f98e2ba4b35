/- The reference implementation of forms: Valid and values, whatever the strings are. -/
import Derived.Test.YtdiecekagiledaaGreatDoorVR8
set_option linter.unusedSimpArgs false
set_option linter.unusedVariables false
set_option maxRecDepth 100000
set_option maxHeartbeats 16000000
namespace Go.Proofs.YtdiecekagiledaaGreatDoor
open Go Go.RowKit Go.Lib Go.Shelf Go.Proofs.Tryz
attribute [local go_sem] yg
def R4K(w:World)(a b:ByteArray):Option Rat->Prop
 | some q=>a=S q.num/\b=S (q.den:Int)/\QDig 200 q
 | none=>∀ W,Aa w W->Calls prog 37 #[.agg #[.string a,.string b]] W (qa false W)
theorem R4K.valid{w:World}{a b:ByteArray}{o:Option Rat}(h:R4K w a b o)(W:World)(hB:Aa w W):Calls prog 37 #[.agg #[.string a,.string b]] W (qa o.isSome W):=by
 cases o with
 | none=>exact h W hB
 | some q=>obtain⟨rfl,rfl,hq⟩:=h;exact zH q hq W
def zaY(l:List RT)(j:Nat):Prop:=1<=(uD l j).s/\(uD l j).s<=1000000/\(0<j->(uD l (j-1)).s<(uD l j).s)
theorem zaZ{oc orr:Option Rat}{ot:Nat->Option Rat}{l:List RT}{n:Nat}(hn:l.length=n):vfB oc orr ot l n=true↔oc.isSome=true/\(∃ q,orr=some q/\0<=q)/\n<=64/\∀ j,j<n->zaY l j/\zap (ot j)=false:=by
 subst hn;unfold vfB zaY
 cases orr with
 | none=>simp
 | some q =>
  simp only[AV,decide_eq_true_eq,Dp,decide_eq_false_iff_not,DH,true_and];unfold qbd;constructor
  ·rintro⟨h1,h2,h3,h4,h5⟩;exact⟨h1,⟨q,rfl,h2⟩,h3,fun j hj=>⟨h4 j hj,by cases e:zap (ot j)with|false=>rfl|true=>exact absurd ⟨j,hj,e⟩ h5⟩⟩
  ·rintro⟨h1,⟨_,hq,h2⟩,h3,h4⟩
   cases hq
   exact⟨h1,h2,h3,fun j hj=>(h4 j hj).1,fun⟨j,hj,e⟩=>by rw[(h4 j hj).2]at e;cases e⟩
def vvB(ot:Nat->Option Rat)(l:List RT)(n:Nat):Bool:=decide (n<=64)&&(decide (qbd l) && !decide (∃ i,i<n/\(!zaR (-1) 1 (ot i))=true))
theorem qaZ{ot:Nat->Option Rat}{l:List RT}{n:Nat}(hn:l.length=n):vvB ot l n=true↔n<=64/\∀ j,j<n->zaY l j/\zaR (-1) 1 (ot j)=true:=by
 subst hn;unfold vvB zaY;simp only[AV,decide_eq_true_eq,Dp,decide_eq_false_iff_not];unfold qbd;constructor
 ·rintro⟨h3,h4,h5⟩;exact⟨h3,fun j hj=>⟨h4 j hj,by cases e:zaR (-1) 1 (ot j)with|true=>rfl|false=>exact absurd ⟨j,hj,by simp[e]⟩ h5⟩⟩
 ·rintro⟨h3,h4⟩;exact⟨h3,fun j hj=>(h4 j hj).1,fun⟨j,hj,e⟩=>by rw[(h4 j hj).2]at e;cases e⟩
theorem zaB{lo hi q:Rat}(h:zaR lo hi (some q)=true):lo<=q/\q<=hi:=by unfold zaR at h;simpa using h
theorem ycO{lo hi q:Rat}(h1:lo<=q)(h2:q<=hi):zaR lo hi (some q)=true:=by unfold zaR;simp[h1,h2]
theorem yb3{c1 c2 r1 r2:ByteArray}{oc:Option Rat}(p:En)(n c:Nat)(w:World)(hc:R4K w c1 c2 oc)(MA2:∀ W,Aa w W->Calls prog 37 #[.agg #[.string r1,.string r2]] W (qa false W)):Calls prog 18 #[.agg #[.string c1,.string c2,.slice p n c,.string r1,.string r2]] w (qa false w):=by
 have hB:=Ab w;have MA1:=fun W hB=>R4K.valid hc W hB
 unfold qa at *;generalize oc.isSome=v1 at *;go_enter func18,ntmps18;go_wp2_with fail;have sB:=hB.size;refine za (fun X=>Aa w X/\Row X w.heap.size (.cells #[.string c1,.string c2,.slice p n c,.string r1,.string r2] 26)) ⟨BW,RW8⟩ ?_;clear hB sB;rintro V1⟨hB,rf⟩;have sf:=RF5 rf;refine(MA1 _ hB).mono ?_;rintro e W2⟨rfl,h1⟩;have stp:=St1 hB h1 rf;clear hB h1 rf sf;obtain⟨hB,rf⟩:=stp;have sf:=RF5 rf;go_wp2_with fail;refine(MA2 _ hB).mono ?_;rintro e W3⟨rfl,h1⟩;have stp:=St1 hB h1 rf;clear hB h1 rf sf;obtain⟨hB,rf⟩:=stp;have sf:=RF5 rf;go_upto_region 3 with fail
 cases v1 with
 | false =>
  go_wp2_with fail;refine jc [.bool false,.bool true,.bool true,undef,undef,.bool true,.bool true,undef,undef,undef,undef,undef,.bool true,.bool true,undef,undef,undef,undef,.bool true] kr9 kr9 rfl (vC9 qv0 (vC9 qv0 (vC9 qv0 (vC9 qv0 (vC9 qv0 (vC9 qv0 (vC9 qv0 (vC9 qv0 (vC9 qv0 (vC9 qv0 (vC9 qv0 (vC9 qv0 (vC9 qv0 (vC9 qv0 (vC9 qv0 (vC9 qv0 (vC9 qv0 (vC9 qv0 (vC9 qv0 trivial))))))))))))))))))) ?_;rintro W h1;have stp:=St1 hB h1 rf;clear hB h1 rf sf;obtain⟨hB,rf⟩:=stp;have sf:=RF5 rf;simp only[ve,Ah,Ak,Al];go_wp2;go_ret;exact⟨rfl,hB⟩
 | true =>
  go_wp2_with fail;refine jc [.bool true,.bool false,.bool false,.bool false,.bool true,.bool true,.bool true,undef,undef,undef,undef,undef,.bool true,.bool true,undef,undef,undef,undef,.bool true] kr9 kr9 rfl (vC9 qv0 (vC9 qv0 (vC9 qv0 (vC9 qv0 (vC9 qv0 (vC9 qv0 (vC9 qv0 (vC9 qv0 (vC9 qv0 (vC9 qv0 (vC9 qv0 (vC9 qv0 (vC9 qv0 (vC9 qv0 (vC9 qv0 (vC9 qv0 (vC9 qv0 (vC9 qv0 (vC9 qv0 trivial))))))))))))))))))) ?_;rintro W h1;have stp:=St1 hB h1 rf;clear hB h1 rf sf;obtain⟨hB,rf⟩:=stp;have sf:=RF5 rf;simp only[ve,Ah,Ak,Al];go_wp2;go_ret;exact⟨rfl,hB⟩
theorem vb3{c1 c2:ByteArray}{l:List RT}{oc:Option Rat}{r:Rat}(hr:QDig 200 r){ot:Nat->Option Rat}(p:En)(n c:Nat)(hn:l.length=n)(w:World)(hc:R4K w c1 c2 oc)(ht:∀ i,i<n->R4K w (uD l i).a (uD l i).b (ot i))(hp:UAt 34 w p l):Calls prog 18 #[.agg #[.string c1,.string c2,.slice p n c,.string (S r.num),.string (S (r.den:Int))]] w (qa (vfB oc (some r) ot l n) w):=by
 have hB:=Ab w;have MA1:=fun W hB=>R4K.valid hc W hB
 have HP:=hid hp;have hud:undef=Value.tuple #[]:=rfl;have VR:=fun W=>zH r hr W
 have MZ:=fun W=>yG (n:=0) dd zG W
 have MC:=fun W=>yaa r 0 hr kaZ W
 obtain⟨z,hz⟩:∃ z:Rat,z=0:=⟨_,rfl⟩
 rw[<- hz]at MZ MC;have HZ:=hid hz;have HBI:=hid (zaZ (oc:=oc) (orr:=some r) (ot:=ot) hn);obtain⟨B,hBv⟩:∃ B,vfB oc (some r) ot l n=B:=⟨_,rfl⟩
 rw[hBv]at HBI ⊢;have MX:∀ i,i<n->R4K w (uD l i).a (uD l i).b (ot i):=ht
 skip
 obtain⟨cm,hcm⟩:∃ cm,zE r z=cm:=⟨_,rfl⟩
 rw[hcm]at MC;have HCM:=hid hcm;unfold qa at *;unfold jB at *;unfold QIs at *;unfold Q at *;have HN:=hid hn;generalize oc.isSome=v1 at *;clear hp hn hc ht hBv hcm hz;go_enter func18,ntmps18;go_wp2_with fail;have sB:=hB.size;refine za (fun X=>Aa w X/\Row X w.heap.size (.cells #[.string c1,.string c2,.slice p n c,.string (S r.num),.string (S (r.den:Int))] 26)) ⟨BW,RW8⟩ ?_;clear hB sB;rintro V1⟨hB,rf⟩;have sf:=RF5 rf;refine(MA1 _ hB).mono ?_;rintro e W2⟨rfl,h1⟩;have stp:=St1 hB h1 rf;clear hB h1 rf sf;obtain⟨hB,rf⟩:=stp;have sf:=RF5 rf;go_wp2_with fail;refine(VR _).mono ?_;rintro e W3⟨rfl,h1⟩;have stp:=St1 hB h1 rf;clear hB h1 rf sf;obtain⟨hB,rf⟩:=stp;have sf:=RF5 rf;go_upto_region 3 with fail
 cases v1 with
 | false =>
  have hb:B=false:=AP.2 fun e=>by have:=(HBI.out.1 e).1;cases this
  subst hb;go_wp2_with fail;refine jc [.bool false,.bool true,.bool true,undef,undef,.bool true,.bool true,undef,undef,undef,undef,undef,.bool true,.bool true,undef,undef,undef,undef,.bool true] kr9 kr9 rfl (vC9 qv0 (vC9 qv0 (vC9 qv0 (vC9 qv0 (vC9 qv0 (vC9 qv0 (vC9 qv0 (vC9 qv0 (vC9 qv0 (vC9 qv0 (vC9 qv0 (vC9 qv0 (vC9 qv0 (vC9 qv0 (vC9 qv0 (vC9 qv0 (vC9 qv0 (vC9 qv0 (vC9 qv0 trivial))))))))))))))))))) ?_;rintro W h1;have stp:=St1 hB h1 rf;clear hB h1 rf sf;obtain⟨hB,rf⟩:=stp;have sf:=RF5 rf;simp only[ve,Ah,Ak,Al];go_wp2;go_ret;exact⟨rfl,hB⟩
 | true =>
  by_cases hr0:cm<0
  ·have hb:B=false:=AP.2 fun e=>by obtain⟨_,⟨q,hq,h0⟩,_⟩:=HBI.out.1 e;cases hq;have:=qE.2 h0;rw[<- HZ.out,HCM.out]at this;omega
   subst hb;have hfy:=hid hr0;go_wp2_with fail;refine jc [.bool true,.bool false,.bool false,.bool true,.bool false,.bool false,.bool false,.pointer (some ⟨w.heap.size,3,none⟩),Ac r,Ac z,.int .i64 cm,.bool true,.bool true,.bool true,undef,undef,undef,undef,.bool true] kr9 kr9 rfl (vC9 qv0 (vC9 (qvf hfy.out) (vC9 qv0 (vC9 qv0 (vC9 (qvf hfy.out) (vC9 (qvf hfy.out) (vC9 qv0 (vC9 qv0 (vC9 (qv1 fun X h=>RF5 (Ae rf h)) (vC9 (qv2 fun X h=>MZ X) (vC9 (qv2 fun X h=>MC X) (vC9 (qvf hfy.out) (vC9 (qvf hfy.out) (vC9 qv0 (vC9 qv0 (vC9 qv0 (vC9 qv0 (vC9 qv0 (vC9 (qvf hfy.out) trivial))))))))))))))))))) ?_;rintro W h1;have stp:=St1 hB h1 rf;clear hB h1 rf sf;obtain⟨hB,rf⟩:=stp;have sf:=RF5 rf;simp only[ve,Ah,Ak,Al];go_wp2;go_ret;exact⟨rfl,hB⟩
  ·by_cases h64:64<n
   ·have hnI:(64:Int)<(n:Int):=oo
    have hb:B=false:=AP.2 fun e=>by have:=(HBI.out.1 e).2.2.1;omega
    subst hb;have hfy:=hid (AD hr0 (AD hnI h64));go_wp2_with fail;refine jc [.bool true,.bool false,.bool false,.bool true,.bool false,.bool false,.bool false,.pointer (some ⟨w.heap.size,3,none⟩),Ac r,Ac z,.int .i64 cm,.bool false,.bool false,.bool false,.pointer (some ⟨w.heap.size,2,none⟩),.slice p n c,.int .i64 (n:Int),.bool true,.bool true] kr9 kr9 rfl (vC9 qv0 (vC9 (qvf hfy.out) (vC9 qv0 (vC9 qv0 (vC9 (qvf hfy.out) (vC9 (qvf hfy.out) (vC9 qv0 (vC9 qv0 (vC9 (qv1 fun X h=>RF5 (Ae rf h)) (vC9 (qv2 fun X h=>MZ X) (vC9 (qv2 fun X h=>MC X) (vC9 (qvf hfy.out) (vC9 (qvf hfy.out) (vC9 qv0 (vC9 qv0 (vC9 (qv1 fun X h=>RF5 (Ae rf h)) (vC9 (qvf hfy.out) (vC9 (qvf hfy.out) (vC9 (qvf hfy.out) trivial))))))))))))))))))) ?_;rintro W h1;have stp:=St1 hB h1 rf;clear hB h1 rf sf;obtain⟨hB,rf⟩:=stp;have sf:=RF5 rf;simp only[ve,Ah,Ak,Al];go_wp2;go_ret;exact⟨rfl,hB⟩
   ·have hnI:¬ (64:Int)<(n:Int):=oo
    replace HBI:=hid (⟨fun e=>⟨trivial,(HBI.out.1 e).2.2.2⟩,fun h=>HBI.out.2 ⟨rfl,⟨r,rfl,qE.1 (by rw[<- HZ.out,HCM.out];omega)⟩,oo,h.2⟩⟩:B=true↔True/\∀ j,j<n->zaY l j/\zap (ot j)=false);have hfy:=hid (AD hr0 (AD hnI h64));go_wp2_with fail;refine jc [.bool true,.bool false,.bool false,.bool true,.bool false,.bool false,.bool false,.pointer (some ⟨w.heap.size,3,none⟩),Ac r,Ac z,.int .i64 cm,.bool false,.bool false,.bool false,.pointer (some ⟨w.heap.size,2,none⟩),.slice p n c,.int .i64 (n:Int),.bool false,.bool false] kr9 kr9 rfl (vC9 qv0 (vC9 (qvf hfy.out) (vC9 qv0 (vC9 qv0 (vC9 (qvf hfy.out) (vC9 (qvf hfy.out) (vC9 qv0 (vC9 qv0 (vC9 (qv1 fun X h=>RF5 (Ae rf h)) (vC9 (qv2 fun X h=>MZ X) (vC9 (qv2 fun X h=>MC X) (vC9 (qvf hfy.out) (vC9 (qvf hfy.out) (vC9 qv0 (vC9 qv0 (vC9 (qv1 fun X h=>RF5 (Ae rf h)) (vC9 (qvf hfy.out) (vC9 (qvf hfy.out) (vC9 (qvf hfy.out) trivial))))))))))))))))))) ?_;rintro W h1;have stp:=St1 hB h1 rf;clear hB h1 rf sf;obtain⟨hB,rf⟩:=stp;have sf:=RF5 rf;simp only[ve,Ah,Ak,Al];clear hfy;go_wp2_with fail;go_loopw[5] (fun v5 wr=>∃ i:Nat,v5=.int .i64 (i:Int)/\i<=n/\Hid (∀ j,j<i->zaY l j/\zap (ot j)=false)/\Aa w wr/\Row wr w.heap.size (.cells #[.string c1,.string c2,.slice p n c,.string (S r.num),.string (S (r.den:Int))] 26)) (fun v5 _=>(n-RowKit.intOf v5).toNat)
    case atStart=>exact⟨0,rfl,Bt _,hid (fun j hj=>absurd hj (Cn j)),hB,rf⟩
    case round =>
     clear sf hB rf;obtain⟨i,rfl,hin,HI,hB,rf⟩:=hrel;rcases AJ i n with hlt|hge
     ·have hil:i<l.length:=by rw[HN.out];exact hlt
      have MX:=MX i hlt;have hiI:(i:Int)<(n:Int):=oo
      obtain⟨g,gcur,rfl,rg,hgc⟩:=UAt.open (Ai HP.out hB) oo;obtain⟨g0,g1,g2⟩:=hgc i hil;obtain⟨x,hx⟩:∃ x,x=uD l i:=⟨_,rfl⟩
      obtain⟨o,ho⟩:∃ o,o=ot i:=⟨_,rfl⟩
      rw[<- hx]at g0 g1 g2 MX;rw[<- ho]at MX;have HX:=hid hx;have HO:=hid ho;clear hx ho
      cases o with
      | none =>
       have hb:B=false:=AP.2 fun e=>by obtain⟨h7,h8⟩:=(HBI.out.1 e).2 i hlt;rw[<- HO.out]at h8;cases h8
       subst hb;have Fg:=Eo rg g0 g1 g2
       have sg:=Fg _ rg;have sf:=RF5 rf;clear hgc HX;have hfy:=hid hiI;go_wp2_with fail;have sB:=hB.size;refine za (fun X=>Aa w X/\Row X w.heap.size (.cells #[.string c1,.string c2,.slice (some ⟨g,0,none⟩) n c,.string (S r.num),.string (S (r.den:Int))] 26)/\Row X g (.cells gcur 34)/\Row X wr.heap.size (.cells #[.int .i64 x.s,.string x.a,.string x.b] 34)) ⟨BW,RW8,RW8,RW8⟩ ?_;clear rf sf rg sg hB sB;rintro V4⟨hB,rf,rg,rt⟩;have sf:=RF5 rf;have sg:=Fg _ rg;have st:=RF3 rt;refine(MX _ hB).mono ?_;rintro e W5⟨rfl,h1⟩;have stp:=St3 hB h1 rf rg rt;clear hB h1 rf sf rg sg rt st;obtain⟨hB,rf,rg,rt⟩:=stp;have sf:=RF5 rf;have sg:=Fg _ rg;have st:=RF3 rt;go_wp2_with fail;refine jc [.bool false,.bool true,.bool true,undef,undef,undef,undef,.bool true,.bool true,undef,undef,undef,.bool true,.bool true,undef,undef,undef,.bool true,.bool true,undef,undef,undef,undef,undef,undef,undef,undef,undef,undef,undef,undef,undef,undef,.bool true] kr9 kr9 rfl (vC9 qv0 (vC9 (qvf hfy.out) (vC9 qv0 (vC9 qv0 (vC9 qv0 (vC9 qv0 (vC9 qv0 (vC9 (qvf hfy.out) (vC9 qv0 (vC9 qv0 (vC9 qv0 (vC9 qv0 (vC9 (qvf hfy.out) (vC9 qv0 (vC9 qv0 (vC9 qv0 (vC9 qv0 (vC9 (qvf hfy.out) (vC9 qv0 (vC9 qv0 (vC9 qv0 (vC9 qv0 (vC9 (qvf hud) (vC9 (qvf hud) (vC9 (qvf hud) (vC9 (qvf hud) (vC9 (qvf hud) (vC9 (qvf hud) (vC9 (qvf hud) (vC9 (qvf hud) (vC9 (qvf hud) (vC9 (qvf hud) (vC9 qv0 (vC9 (qvf hfy.out) trivial)))))))))))))))))))))))))))))))))) ?_
       rintro W h1;have stp:=St3 hB h1 rf rg rt;clear hB h1 rf sf rg sg rt st;obtain⟨hB,rf,rg,rt⟩:=stp;have sf:=RF5 rf;have sg:=Fg _ rg;have st:=RF3 rt;simp only[ve,Ah,Ak,Al];go_wp2;go_ret;exact⟨rfl,hB⟩
      | some q =>
       obtain⟨ea,eb,dc⟩:=MX;rw[ea]at g1;rw[eb]at g2;clear ea eb;have MV:=fun W=>zH q dc W
       unfold qa at MV;obtain⟨y,hy⟩:∃ y:Int,0<i->(uD l (i-1)).s=y:=⟨_,fun _=>rfl⟩
       have HY:=hid hy;clear hy;unfold Q at *;have Fg:=Eo rg g0 g1 g2
       have sg:=Fg _ rg;have sf:=RF5 rf;go_wp2_with fail;have sB:=hB.size;refine za (fun X=>Aa w X/\Row X w.heap.size (.cells #[.string c1,.string c2,.slice (some ⟨g,0,none⟩) n c,.string (S r.num),.string (S (r.den:Int))] 26)/\Row X g (.cells gcur 34)/\Row X wr.heap.size (oT x.s q)) ⟨BW,RW8,RW8,RW8⟩ ?_;clear rf sf rg sg hB sB;rintro V4⟨hB,rf,rg,rt⟩;have sf:=RF5 rf;have sg:=Fg _ rg;have st:=RF3 rt;refine(MV _).mono ?_;rintro e W5⟨rfl,h1⟩;have stp:=St3 hB h1 rf rg rt;clear hB h1 rf sf rg sg rt st;obtain⟨hB,rf,rg,rt⟩:=stp;have sf:=RF5 rf;have sg:=Fg _ rg;have st:=RF3 rt;go_upto_region 10 with fail;by_cases hq0:q=0
       ·have hb:B=false:=AP.2 fun e=>by obtain⟨h7,h8⟩:=(HBI.out.1 e).2 i hlt;rw[<- HO.out,hq0]at h8;exact absurd h8 dd
        subst hb;have hqe:((S q.num).toList==(S z.num).toList)=true:=by rw[hq0,HZ.out];simp
        have hqf:((S (q.den:Int)).toList==(S (z.den:Int)).toList)=true:=by rw[hq0,HZ.out];simp
        clear hgc HX dc hq0;have hfy:=hid (AD hqe (AD hqf hiI));go_wp2_with fail;refine jc [.bool true,.bool false,.bool false,.pointer (some ⟨wr.heap.size,1,none⟩),Ac q,Ac z,.bool true,.bool true,.bool true,undef,undef,undef,.bool true,.bool true,undef,undef,undef,.bool true,.bool true,undef,undef,undef,undef,undef,undef,undef,undef,undef,undef,undef,undef,undef,undef,.bool true] kr9 kr9 rfl (vC9 qv0 (vC9 (qvf hfy.out) (vC9 qv0 (vC9 qv0 (vC9 (qv1 fun X h=>RF3 (Ae rt h)) (vC9 (qv2 fun X h=>MZ X) (vC9 (qvf hfy.out) (vC9 (qvf hfy.out) (vC9 qv0 (vC9 qv0 (vC9 qv0 (vC9 qv0 (vC9 (qvf hfy.out) (vC9 qv0 (vC9 qv0 (vC9 qv0 (vC9 qv0 (vC9 (qvf hfy.out) (vC9 qv0 (vC9 qv0 (vC9 qv0 (vC9 qv0 (vC9 (qvf hud) (vC9 (qvf hud) (vC9 (qvf hud) (vC9 (qvf hud) (vC9 (qvf hud) (vC9 (qvf hud) (vC9 (qvf hud) (vC9 (qvf hud) (vC9 (qvf hud) (vC9 (qvf hud) (vC9 qv0 (vC9 (qvf hfy.out) trivial)))))))))))))))))))))))))))))))))) ?_;rintro W h1;have stp:=St3 hB h1 rf rg rt;clear hB h1 rf sf rg sg rt st;obtain⟨hB,rf,rg,rt⟩:=stp;have sf:=RF5 rf;have sg:=Fg _ rg;have st:=RF3 rt
        simp only[ve,Ah,Ak,Al];go_wp2;go_ret;exact⟨rfl,hB⟩
       ·have hqn:((S q.num).toList==(S z.num).toList)=false:=vcI (fun e=>hq0 (Dj.1 (by rw[e,HZ.out];rfl)));by_cases hs1:x.s<1
        ·have hb:B=false:=AP.2 fun e=>by obtain⟨h7,h8⟩:=(HBI.out.1 e).2 i hlt;have:=h7.1;rw[<- HX.out]at this;omega
         subst hb;clear hgc HX dc;have hfy:=hid (AD hqn (AD hiI hs1));go_wp2_with fail;refine jc [.bool true,.bool false,.bool false,.pointer (some ⟨wr.heap.size,1,none⟩),Ac q,Ac z,.bool false,.bool false,.bool false,.pointer (some ⟨wr.heap.size,0,none⟩),.int .i64 x.s,.bool true,.bool true,.bool true,undef,undef,undef,.bool true,.bool true,undef,undef,undef,undef,undef,undef,undef,undef,undef,undef,undef,undef,undef,undef,.bool true] kr9 kr9 rfl (vC9 qv0 (vC9 (qvf hfy.out) (vC9 qv0 (vC9 qv0 (vC9 (qv1 fun X h=>RF3 (Ae rt h)) (vC9 (qv2 fun X h=>MZ X) (vC9 (qvf hfy.out) (vC9 (qvf hfy.out) (vC9 qv0 (vC9 qv0 (vC9 (qv1 fun X h=>RF3 (Ae rt h)) (vC9 (qvf hfy.out) (vC9 (qvf hfy.out) (vC9 qv0 (vC9 qv0 (vC9 qv0 (vC9 qv0 (vC9 (qvf hfy.out) (vC9 qv0 (vC9 qv0 (vC9 qv0 (vC9 qv0 (vC9 (qvf hud) (vC9 (qvf hud) (vC9 (qvf hud) (vC9 (qvf hud) (vC9 (qvf hud) (vC9 (qvf hud) (vC9 (qvf hud) (vC9 (qvf hud) (vC9 (qvf hud) (vC9 (qvf hud) (vC9 qv0 (vC9 (qvf hfy.out) trivial)))))))))))))))))))))))))))))))))) ?_;rintro W h1;have stp:=St3 hB h1 rf rg rt;clear hB h1 rf sf rg sg rt st
         obtain⟨hB,rf,rg,rt⟩:=stp;have sf:=RF5 rf;have sg:=Fg _ rg;have st:=RF3 rt;simp only[ve,Ah,Ak,Al];go_wp2;go_ret;exact⟨rfl,hB⟩
        ·by_cases hs2:1000000<x.s
         ·have hb:B=false:=AP.2 fun e=>by obtain⟨h7,h8⟩:=(HBI.out.1 e).2 i hlt;have:=h7.2.1;rw[<- HX.out]at this;omega
          subst hb;clear hgc HX dc;have hfy:=hid (AD hqn (AD hiI (AD hs1 hs2)));go_wp2_with fail;refine jc [.bool true,.bool false,.bool false,.pointer (some ⟨wr.heap.size,1,none⟩),Ac q,Ac z,.bool false,.bool false,.bool false,.pointer (some ⟨wr.heap.size,0,none⟩),.int .i64 x.s,.bool false,.bool false,.bool false,.pointer (some ⟨wr.heap.size,0,none⟩),.int .i64 x.s,.bool true,.bool true,.bool true,undef,undef,undef,undef,undef,undef,undef,undef,undef,undef,undef,undef,undef,undef,.bool true] kr9 kr9 rfl (vC9 qv0 (vC9 (qvf hfy.out) (vC9 qv0 (vC9 qv0 (vC9 (qv1 fun X h=>RF3 (Ae rt h)) (vC9 (qv2 fun X h=>MZ X) (vC9 (qvf hfy.out) (vC9 (qvf hfy.out) (vC9 qv0 (vC9 qv0 (vC9 (qv1 fun X h=>RF3 (Ae rt h)) (vC9 (qvf hfy.out) (vC9 (qvf hfy.out) (vC9 qv0 (vC9 qv0 (vC9 (qv1 fun X h=>RF3 (Ae rt h)) (vC9 (qvf hfy.out) (vC9 (qvf hfy.out) (vC9 qv0 (vC9 qv0 (vC9 qv0 (vC9 qv0 (vC9 (qvf hud) (vC9 (qvf hud) (vC9 (qvf hud) (vC9 (qvf hud) (vC9 (qvf hud) (vC9 (qvf hud) (vC9 (qvf hud) (vC9 (qvf hud) (vC9 (qvf hud) (vC9 (qvf hud) (vC9 qv0 (vC9 (qvf hfy.out) trivial)))))))))))))))))))))))))))))))))) ?_
          rintro W h1;have stp:=St3 hB h1 rf rg rt;clear hB h1 rf sf rg sg rt st;obtain⟨hB,rf,rg,rt⟩:=stp;have sf:=RF5 rf;have sg:=Fg _ rg;have st:=RF3 rt;simp only[ve,Ah,Ak,Al];go_wp2;go_ret;exact⟨rfl,hB⟩
         ·rcases Az i with hi0|hi0
          ·have hn0:0<n:=oo
           have HI0:=hid hi0;clear hi0 hgc dc;have hfy:=hid (AD hqn (AD hiI (AD hs1 (AD hs2 (AD hn0 HI0.out)))));go_wp2_with fail;refine jc [.bool true,.bool false,.bool false,.pointer (some ⟨wr.heap.size,1,none⟩),Ac q,Ac z,.bool false,.bool false,.bool false,.pointer (some ⟨wr.heap.size,0,none⟩),.int .i64 x.s,.bool false,.bool false,.bool false,.pointer (some ⟨wr.heap.size,0,none⟩),.int .i64 x.s,.bool false,.bool false,.bool false,.int .i64 (i:Int),.bool false,.bool false,undef,undef,undef,undef,undef,undef,undef,undef,undef,undef,.bool false,.bool false] kr9 kr9 rfl (vC9 qv0 (vC9 (qvf hfy.out) (vC9 qv0 (vC9 qv0 (vC9 (qv1 fun X h=>RF3 (Ae rt h)) (vC9 (qv2 fun X h=>MZ X) (vC9 (qvf hfy.out) (vC9 (qvf hfy.out) (vC9 qv0 (vC9 qv0 (vC9 (qv1 fun X h=>RF3 (Ae rt h)) (vC9 (qvf hfy.out) (vC9 (qvf hfy.out) (vC9 qv0 (vC9 qv0 (vC9 (qv1 fun X h=>RF3 (Ae rt h)) (vC9 (qvf hfy.out) (vC9 (qvf hfy.out) (vC9 qv0 (vC9 qv0 (vC9 (qvf hfy.out) (vC9 qv0 (vC9 qv0 (vC9 qv0 (vC9 qv0 (vC9 qv0 (vC9 qv0 (vC9 qv0 (vC9 qv0 (vC9 qv0 (vC9 qv0 (vC9 qv0 (vC9 (qvf hfy.out) (vC9 (qvf hfy.out) trivial)))))))))))))))))))))))))))))))))) ?_
           rintro W h1;have stp:=St3 hB h1 rf rg rt;clear hB h1 rf sf rg sg rt st;obtain⟨hB,rf,rg,rt⟩:=stp;have sf:=RF5 rf;have sg:=Fg _ rg;have st:=RF3 rt;simp only[ve,Ah,Ak,Al];go_wp2;go_roundw
           case rel=>exact⟨i+1,by go_num,oo,hid (fun j hj=>by rcases AU.1 hj with h|rfl;(· exact HI.out j h);(· exact⟨⟨by rw[<- HX.out];omega,by rw[<- HX.out];omega,fun h=>by have:=HI0.out;omega⟩,by rw[<- HO.out];exact decide_eq_false hq0⟩)),BW,RW8⟩
           case measure=>simp[RowKit.intOf];try omega
          ·obtain⟨j,hij⟩:∃ j,i=j+1:=⟨i-1,oo⟩
           have HIJ:=hid hij;have hjl:j<l.length:=oo
           obtain⟨g3,_,_⟩:=hgc j hjl;have ey:(uD l j).s=y:=by have:=HY.out hi0;rwa[hij,Ca]at this
           rw[ey]at g3;have hw1:IntKind.i64.wrap ((i:Int)-1)=(j:Int):=by rw[IntKind.wrap_i64];omega
           have hjI:(j:Int)<(n:Int):=oo
           have hi1:(0:Int)<(i:Int):=oo
           clear hgc ey hij dc Fg;have Fg:∀ X,Row X g (.cells gcur 34)->(g<X.heap.size/\X.cell? ⟨g,i*3,none⟩=some (.int .i64 x.s)/\X.cell? ⟨g,i*3+1,none⟩=some (.string (S q.num))/\X.cell? ⟨g,i*3+2,none⟩=some (.string (S (q.den:Int)))/\X.cell? ⟨g,j*3,none⟩=some (.int .i64 y)):=fun X h=>⟨h.1,Af h _ g0,Af h _ g1,Af h _ g2,Af h _ g3⟩
           have sg:=Fg _ rg;by_cases hs3:x.s<=y
           ·have hb:B=false:=AP.2 fun e=>by obtain⟨h7,h8⟩:=(HBI.out.1 e).2 i hlt;have:=h7.2.2 hi0;rw[<- HX.out,HY.out hi0]at this;omega
            subst hb;clear HX;have hfy:=hid (AD hqn (AD hiI (AD hs1 (AD hs2 (AD hi1 (AD hi0 (AD hw1 (AD hjI hs3))))))));go_wp2_with fail;refine jc [.bool true,.bool false,.bool false,.pointer (some ⟨wr.heap.size,1,none⟩),Ac q,Ac z,.bool false,.bool false,.bool false,.pointer (some ⟨wr.heap.size,0,none⟩),.int .i64 x.s,.bool false,.bool false,.bool false,.pointer (some ⟨wr.heap.size,0,none⟩),.int .i64 x.s,.bool false,.bool false,.bool false,.int .i64 (i:Int),.bool true,.bool true,.pointer (some ⟨w.heap.size,2,none⟩),.slice (some ⟨g,0,none⟩) n c,.int .i64 (i:Int),.int .i64 (j:Int),.pointer (some ⟨g,j*3,none⟩),.pointer (some ⟨g,j*3,none⟩),.int .i64 y,.pointer (some ⟨wr.heap.size,0,none⟩),.int .i64 x.s,.bool true,.bool true,.bool true] kr9 kr9 rfl (vC9 qv0 (vC9 (qvf hfy.out) (vC9 qv0 (vC9 qv0 (vC9 (qv1 fun X h=>RF3 (Ae rt h)) (vC9 (qv2 fun X h=>MZ X) (vC9 (qvf hfy.out) (vC9 (qvf hfy.out) (vC9 qv0 (vC9 qv0 (vC9 (qv1 fun X h=>RF3 (Ae rt h)) (vC9 (qvf hfy.out) (vC9 (qvf hfy.out) (vC9 qv0 (vC9 qv0 (vC9 (qv1 fun X h=>RF3 (Ae rt h)) (vC9 (qvf hfy.out) (vC9 (qvf hfy.out) (vC9 qv0 (vC9 qv0 (vC9 (qvf hfy.out) (vC9 qv0 (vC9 qv0 (vC9 (qv1 fun X h=>RF5 (Ae rf h)) (vC9 qv0 (vC9 (qvf hfy.out) (vC9 (qvf hfy.out) (vC9 qv0 (vC9 (qv1 fun X h=>Fg X (Ae rg h)) (vC9 qv0 (vC9 (qv1 fun X h=>RF3 (Ae rt h)) (vC9 (qvf hfy.out) (vC9 (qvf hfy.out) (vC9 (qvf hfy.out) trivial)))))))))))))))))))))))))))))))))) ?_
            rintro W h1;have stp:=St3 hB h1 rf rg rt;clear hB h1 rf sf rg sg rt st;obtain⟨hB,rf,rg,rt⟩:=stp;have sf:=RF5 rf;have sg:=Fg _ rg;have st:=RF3 rt;simp only[ve,Ah,Ak,Al];go_wp2;go_ret;exact⟨rfl,hB⟩
           ·have hfy:=hid (AD hqn (AD hiI (AD hs1 (AD hs2 (AD hi1 (AD hi0 (AD hw1 (AD hjI hs3))))))));go_wp2_with fail;refine jc [.bool true,.bool false,.bool false,.pointer (some ⟨wr.heap.size,1,none⟩),Ac q,Ac z,.bool false,.bool false,.bool false,.pointer (some ⟨wr.heap.size,0,none⟩),.int .i64 x.s,.bool false,.bool false,.bool false,.pointer (some ⟨wr.heap.size,0,none⟩),.int .i64 x.s,.bool false,.bool false,.bool false,.int .i64 (i:Int),.bool true,.bool true,.pointer (some ⟨w.heap.size,2,none⟩),.slice (some ⟨g,0,none⟩) n c,.int .i64 (i:Int),.int .i64 (j:Int),.pointer (some ⟨g,j*3,none⟩),.pointer (some ⟨g,j*3,none⟩),.int .i64 y,.pointer (some ⟨wr.heap.size,0,none⟩),.int .i64 x.s,.bool false,.bool false,.bool false] kr9 kr9 rfl (vC9 qv0 (vC9 (qvf hfy.out) (vC9 qv0 (vC9 qv0 (vC9 (qv1 fun X h=>RF3 (Ae rt h)) (vC9 (qv2 fun X h=>MZ X) (vC9 (qvf hfy.out) (vC9 (qvf hfy.out) (vC9 qv0 (vC9 qv0 (vC9 (qv1 fun X h=>RF3 (Ae rt h)) (vC9 (qvf hfy.out) (vC9 (qvf hfy.out) (vC9 qv0 (vC9 qv0 (vC9 (qv1 fun X h=>RF3 (Ae rt h)) (vC9 (qvf hfy.out) (vC9 (qvf hfy.out) (vC9 qv0 (vC9 qv0 (vC9 (qvf hfy.out) (vC9 qv0 (vC9 qv0 (vC9 (qv1 fun X h=>RF5 (Ae rf h)) (vC9 qv0 (vC9 (qvf hfy.out) (vC9 (qvf hfy.out) (vC9 qv0 (vC9 (qv1 fun X h=>Fg X (Ae rg h)) (vC9 qv0 (vC9 (qv1 fun X h=>RF3 (Ae rt h)) (vC9 (qvf hfy.out) (vC9 (qvf hfy.out) (vC9 (qvf hfy.out) trivial)))))))))))))))))))))))))))))))))) ?_
            rintro W h1;have stp:=St3 hB h1 rf rg rt;clear hB h1 rf sf rg sg rt st;obtain⟨hB,rf,rg,rt⟩:=stp;have sf:=RF5 rf;have sg:=Fg _ rg;have st:=RF3 rt;simp only[ve,Ah,Ak,Al];go_wp2;go_roundw
            case rel=>exact⟨i+1,by go_num,oo,hid (fun j hj=>by rcases AU.1 hj with h|rfl;(· exact HI.out j h);(· exact⟨⟨by rw[<- HX.out];omega,by rw[<- HX.out];omega,fun _=>by rw[<- HX.out,HY.out hi0];omega⟩,by rw[<- HO.out];exact decide_eq_false hq0⟩)),BW,RW8⟩
            case measure=>simp[RowKit.intOf];try omega
     ·have hnl:¬ ((i:Int)<(n:Int)):=oo
      obtain rfl:n=i:=oo
      have hb:B=true:=HBI.out.2 ⟨trivial,fun j hj=>HI.out j hj⟩;subst hb;have sf:=RF5 rf;go_wp2;go_ret;exact⟨rfl,hB⟩
theorem vbv{c1 c2 r1 r2:ByteArray}{l:List RT}{oc orr:Option Rat}{ot:Nat->Option Rat}(p:En)(n c:Nat)(hn:l.length=n)(w:World)(hc:R4K w c1 c2 oc)(hr:R4K w r1 r2 orr)(ht:∀ i,i<n->R4K w (uD l i).a (uD l i).b (ot i))(hp:UAt 34 w p l):Calls prog 18 #[.agg #[.string c1,.string c2,.slice p n c,.string r1,.string r2]] w (qa (vfB oc orr ot l n) w):=by
 cases orr with
 | some r=>obtain⟨rfl,rfl,hq⟩:=hr;exact vb3 hq p n c hn w hc ht hp
 | none =>
  rw[show vfB oc none ot l n=false from AP.2 fun e=>by obtain⟨_,⟨q,hq,_⟩,_⟩:=(zaZ hn).1 e;cases hq];exact yb3 p n c w hc hr
theorem zb4{l:List RT}{ot:Nat->Option Rat}(p:En)(n c:Nat)(hn:l.length=n)(w:World)(ht:∀ i,i<n->R4K w (uD l i).a (uD l i).b (ot i))(hp:UAt 34 w p l):Calls prog 61 #[.slice p n c] w (qa (vvB ot l n) w):=by
 have hB:=Ab w;have HP:=hid hp;have hud:undef=Value.tuple #[]:=rfl;have MM:=fun W=>yG (n := -1) dd zbc W
 have M1:=fun W=>yG (n:=1) dd kaf W
 have MK1:=fun q (dc:QDig 200 q) W=>yaa q (-1) dc vc3 W
 have MK2:=fun q (dc:QDig 200 q) W=>yaa q 1 dc jcJ W
 obtain⟨om,hom⟩:∃ z:Rat,z = -1:=⟨_,rfl⟩
 obtain⟨one,hone⟩:∃ z:Rat,z=1:=⟨_,rfl⟩
 rw[<- hom]at MM;simp only[<- hom]at MK1;rw[<- hone]at M1;simp only[<- hone]at MK2;have HOM:=hid hom;have HONE:=hid hone;clear hom hone;have HBI:=hid (qaZ (ot:=ot) hn);obtain⟨B,hBv⟩:∃ B,vvB ot l n=B:=⟨_,rfl⟩
 rw[hBv]at HBI ⊢;have MX:∀ i,i<n->R4K w (uD l i).a (uD l i).b (ot i):=ht;unfold qa at *;unfold QIs at *;unfold Q at *;have HN:=hid hn;clear hp hn ht hBv;go_enter func61,ntmps61;by_cases h64:64<n
 ·have hnI:(64:Int)<(n:Int):=oo
  have hb:B=false:=AP.2 fun e=>by have:=(HBI.out.1 e).1;omega
  subst hb;go_wp2;go_ret;exact⟨rfl,hB⟩
 ·have hnI:¬ (64:Int)<(n:Int):=oo
  replace HBI:=hid (⟨fun e=>⟨trivial,(HBI.out.1 e).2⟩,fun h=>HBI.out.2 ⟨oo,h.2⟩⟩:B=true↔True/\∀ j,j<n->zaY l j/\zaR (-1) 1 (ot j)=true);go_wp2_with fail;go_loopw[3] (fun v3 wr=>∃ i:Nat,v3=.int .i64 (i:Int)/\i<=n/\Hid (∀ j,j<i->zaY l j/\zaR (-1) 1 (ot j)=true)/\Aa w wr) (fun v3 _=>(n-RowKit.intOf v3).toNat)
  case atStart=>exact⟨0,rfl,Bt _,hid (fun j hj=>absurd hj (Cn j)),hB⟩
  case round =>
   clear hB;obtain⟨i,rfl,hin,HI,hB⟩:=hrel;rcases AJ i n with hlt|hge
   ·have hil:i<l.length:=by rw[HN.out];exact hlt
    have MX:=MX i hlt;have hiI:(i:Int)<(n:Int):=oo
    obtain⟨g,gcur,rfl,rg,hgc⟩:=UAt.open (Ai HP.out hB) oo;obtain⟨g0,g1,g2⟩:=hgc i hil;obtain⟨x,hx⟩:∃ x,x=uD l i:=⟨_,rfl⟩
    obtain⟨o,ho⟩:∃ o,o=ot i:=⟨_,rfl⟩
    rw[<- hx]at g0 g1 g2 MX;rw[<- ho]at MX;have HX:=hid hx;have HO:=hid ho;clear hx ho
    cases o with
    | none =>
     have hb:B=false:=AP.2 fun e=>by obtain⟨h7,h8⟩:=(HBI.out.1 e).2 i hlt;rw[<- HO.out]at h8;cases h8
     subst hb;have Fg:=Eo rg g0 g1 g2
     have sg:=Fg _ rg;clear hgc HX;have hfy:=hid hiI;go_wp2_with fail;refine(MX _ hB).mono ?_;rintro e W1⟨rfl,h1⟩;have stp:=St1 hB h1 rg;clear hB h1 rg sg;obtain⟨hB,rg⟩:=stp;have sg:=Fg _ rg;go_wp2_with fail;refine jc [.bool false,.bool true,.bool true,undef,undef,undef,undef,undef,undef,undef,undef,.bool true,.bool true,undef,undef,undef,undef,undef,undef,undef,undef,.bool true] kr9 kr9 rfl (vC9 qv0 (vC9 (qvf hfy.out) (vC9 qv0 (vC9 qv0 (vC9 qv0 (vC9 qv0 (vC9 qv0 (vC9 qv0 (vC9 qv0 (vC9 qv0 (vC9 qv0 (vC9 (qvf hfy.out) (vC9 qv0 (vC9 qv0 (vC9 qv0 (vC9 qv0 (vC9 qv0 (vC9 qv0 (vC9 qv0 (vC9 qv0 (vC9 qv0 (vC9 (qvf hfy.out) trivial)))))))))))))))))))))) ?_;rintro W h1;have stp:=St1 hB h1 rg;clear hB h1 rg sg;obtain⟨hB,rg⟩:=stp;have sg:=Fg _ rg;simp only[ve,Ah,Ak,Al];go_wp2;go_ret;exact⟨rfl,hB⟩
    | some q =>
     obtain⟨ea,eb,dc⟩:=MX;rw[ea]at g1;rw[eb]at g2;clear ea eb;have MV:=fun W=>zH q dc W
     unfold qa at MV;have K1:=MK1 q dc;have K2:=MK2 q dc;unfold jB at K1 K2;obtain⟨y,hy⟩:∃ y:Int,0<i->(uD l (i-1)).s=y:=⟨_,fun _=>rfl⟩
     have HY:=hid hy;clear hy;unfold Q at *;have Fg:=Eo rg g0 g1 g2
     have sg:=Fg _ rg;go_wp2_with fail;refine(MV _).mono ?_;rintro e W1⟨rfl,h1⟩;have stp:=St1 hB h1 rg;clear hB h1 rg sg;obtain⟨hB,rg⟩:=stp;have sg:=Fg _ rg;go_upto_region 7 with fail;obtain⟨c1,hc1⟩:∃ c1,zE q om=c1:=⟨_,rfl⟩
     obtain⟨c2,hc2⟩:∃ c2,zE q one=c2:=⟨_,rfl⟩
     rw[hc1]at K1;rw[hc2]at K2;have HC1:=hid hc1;have HC2:=hid hc2;clear hc1 hc2;by_cases hq1:c1<0
     ·have hb:B=false:=AP.2 fun e=>by obtain⟨h7,h8⟩:=(HBI.out.1 e).2 i hlt;rw[<- HO.out]at h8;obtain⟨h9,_⟩:=zaB h8;have:=qE.2 h9;rw[<- HOM.out,HC1.out]at this;omega
      subst hb;clear hgc HX dc;have hfy:=hid (AD hiI hq1);go_wp2_with fail;refine jc [.bool true,.bool false,.bool false,.slice (some ⟨g,0,none⟩) n c,.int .i64 (i:Int),.pointer (some ⟨g,i*3,none⟩),.pointer (some ⟨g,i*3+1,none⟩),Ac q,Ac om,.int .i64 c1,.bool true,.bool true,.bool true,undef,undef,undef,undef,undef,undef,undef,undef,.bool true] kr9 kr9 rfl (vC9 qv0 (vC9 (qvf hfy.out) (vC9 qv0 (vC9 qv0 (vC9 qv0 (vC9 (qvf hfy.out) (vC9 qv0 (vC9 (qv1 fun X h=>Fg X (Ae rg h)) (vC9 (qv2 fun X h=>MM X) (vC9 (qv2 fun X h=>K1 X) (vC9 (qvf hfy.out) (vC9 (qvf hfy.out) (vC9 qv0 (vC9 qv0 (vC9 qv0 (vC9 qv0 (vC9 qv0 (vC9 qv0 (vC9 qv0 (vC9 qv0 (vC9 qv0 (vC9 (qvf hfy.out) trivial)))))))))))))))))))))) ?_;rintro W h1;have stp:=St1 hB h1 rg;clear hB h1 rg sg;obtain⟨hB,rg⟩:=stp;have sg:=Fg _ rg;simp only[ve,Ah,Ak,Al];go_wp2;go_ret;exact⟨rfl,hB⟩
     ·by_cases hq2:0<c2
      ·have hb:B=false:=AP.2 fun e=>by obtain⟨h7,h8⟩:=(HBI.out.1 e).2 i hlt;rw[<- HO.out]at h8;obtain⟨_,h9⟩:=zaB h8;have:=cmpQ_le.2 h9;rw[<- HONE.out,HC2.out]at this;omega
       subst hb;clear hgc HX dc;have hfy:=hid (AD hiI (AD hq1 hq2));go_wp2_with fail;refine jc [.bool true,.bool false,.bool false,.slice (some ⟨g,0,none⟩) n c,.int .i64 (i:Int),.pointer (some ⟨g,i*3,none⟩),.pointer (some ⟨g,i*3+1,none⟩),Ac q,Ac om,.int .i64 c1,.bool false,.bool false,.bool false,.slice (some ⟨g,0,none⟩) n c,.int .i64 (i:Int),.pointer (some ⟨g,i*3,none⟩),.pointer (some ⟨g,i*3+1,none⟩),Ac q,Ac one,.int .i64 c2,.bool true,.bool true] kr9 kr9 rfl (vC9 qv0 (vC9 (qvf hfy.out) (vC9 qv0 (vC9 qv0 (vC9 qv0 (vC9 (qvf hfy.out) (vC9 qv0 (vC9 (qv1 fun X h=>Fg X (Ae rg h)) (vC9 (qv2 fun X h=>MM X) (vC9 (qv2 fun X h=>K1 X) (vC9 (qvf hfy.out) (vC9 (qvf hfy.out) (vC9 qv0 (vC9 qv0 (vC9 qv0 (vC9 (qvf hfy.out) (vC9 qv0 (vC9 (qv1 fun X h=>Fg X (Ae rg h)) (vC9 (qv2 fun X h=>M1 X) (vC9 (qv2 fun X h=>K2 X) (vC9 (qvf hfy.out) (vC9 (qvf hfy.out) trivial)))))))))))))))))))))) ?_;rintro W h1;have stp:=St1 hB h1 rg;clear hB h1 rg sg;obtain⟨hB,rg⟩:=stp;have sg:=Fg _ rg;simp only[ve,Ah,Ak,Al]
       go_wp2;go_ret;exact⟨rfl,hB⟩
      ·have hfy:=hid (AD hiI (AD hq1 hq2));go_wp2_with fail;refine jc [.bool true,.bool false,.bool false,.slice (some ⟨g,0,none⟩) n c,.int .i64 (i:Int),.pointer (some ⟨g,i*3,none⟩),.pointer (some ⟨g,i*3+1,none⟩),Ac q,Ac om,.int .i64 c1,.bool false,.bool false,.bool false,.slice (some ⟨g,0,none⟩) n c,.int .i64 (i:Int),.pointer (some ⟨g,i*3,none⟩),.pointer (some ⟨g,i*3+1,none⟩),Ac q,Ac one,.int .i64 c2,.bool false,.bool false] kr9 kr9 rfl (vC9 qv0 (vC9 (qvf hfy.out) (vC9 qv0 (vC9 qv0 (vC9 qv0 (vC9 (qvf hfy.out) (vC9 qv0 (vC9 (qv1 fun X h=>Fg X (Ae rg h)) (vC9 (qv2 fun X h=>MM X) (vC9 (qv2 fun X h=>K1 X) (vC9 (qvf hfy.out) (vC9 (qvf hfy.out) (vC9 qv0 (vC9 qv0 (vC9 qv0 (vC9 (qvf hfy.out) (vC9 qv0 (vC9 (qv1 fun X h=>Fg X (Ae rg h)) (vC9 (qv2 fun X h=>M1 X) (vC9 (qv2 fun X h=>K2 X) (vC9 (qvf hfy.out) (vC9 (qvf hfy.out) trivial)))))))))))))))))))))) ?_;rintro W h1;have stp:=St1 hB h1 rg;clear hB h1 rg sg;obtain⟨hB,rg⟩:=stp;have sg:=Fg _ rg;simp only[ve,Ah,Ak,Al];go_upto_region 9 with fail
       have hbet:zaR (-1) 1 (some q)=true:=ycO (qE.1 (by rw[<- HOM.out,HC1.out];omega)) (cmpQ_le.1 (by rw[<- HONE.out,HC2.out];omega));clear hfy;by_cases hs1:x.s<1
       ·have hb:B=false:=AP.2 fun e=>by obtain⟨h7,h8⟩:=(HBI.out.1 e).2 i hlt;have:=h7.1;rw[<- HX.out]at this;omega
        subst hb;clear hgc HX dc;have hfy:=hid (AD hiI hs1);go_wp2_with fail;refine jc [.slice (some ⟨g,0,none⟩) n c,.int .i64 (i:Int),.pointer (some ⟨g,i*3,none⟩),.pointer (some ⟨g,i*3,none⟩),.int .i64 x.s,.bool true,.bool true,undef,undef,undef,undef,undef,undef,.bool true,.bool true,undef,undef,undef,undef,undef,undef,undef,undef,undef,undef,undef,undef,undef,undef,undef,undef,.bool true] kr9 kr9 rfl (vC9 qv0 (vC9 qv0 (vC9 (qvf hfy.out) (vC9 qv0 (vC9 (qv1 fun X h=>Fg X (Ae rg h)) (vC9 (qvf hfy.out) (vC9 qv0 (vC9 qv0 (vC9 qv0 (vC9 qv0 (vC9 qv0 (vC9 qv0 (vC9 qv0 (vC9 (qvf hfy.out) (vC9 qv0 (vC9 qv0 (vC9 qv0 (vC9 qv0 (vC9 (qvf hud) (vC9 (qvf hud) (vC9 (qvf hud) (vC9 (qvf hud) (vC9 (qvf hud) (vC9 (qvf hud) (vC9 (qvf hud) (vC9 (qvf hud) (vC9 (qvf hud) (vC9 (qvf hud) (vC9 (qvf hud) (vC9 (qvf hud) (vC9 qv0 (vC9 (qvf hfy.out) trivial)))))))))))))))))))))))))))))))) ?_;rintro W h1;have stp:=St1 hB h1 rg;clear hB h1 rg sg;obtain⟨hB,rg⟩:=stp;have sg:=Fg _ rg;simp only[ve,Ah,Ak,Al];go_wp2;go_ret;exact⟨rfl,hB⟩
       ·by_cases hs2:1000000<x.s
        ·have hb:B=false:=AP.2 fun e=>by obtain⟨h7,h8⟩:=(HBI.out.1 e).2 i hlt;have:=h7.2.1;rw[<- HX.out]at this;omega
         subst hb;clear hgc HX dc;have hfy:=hid (AD hiI (AD hs1 hs2));go_wp2_with fail;refine jc [.slice (some ⟨g,0,none⟩) n c,.int .i64 (i:Int),.pointer (some ⟨g,i*3,none⟩),.pointer (some ⟨g,i*3,none⟩),.int .i64 x.s,.bool false,.bool false,.slice (some ⟨g,0,none⟩) n c,.int .i64 (i:Int),.pointer (some ⟨g,i*3,none⟩),.pointer (some ⟨g,i*3,none⟩),.int .i64 x.s,.bool true,.bool true,.bool true,undef,undef,undef,undef,undef,undef,undef,undef,undef,undef,undef,undef,undef,undef,undef,undef,.bool true] kr9 kr9 rfl (vC9 qv0 (vC9 qv0 (vC9 (qvf hfy.out) (vC9 qv0 (vC9 (qv1 fun X h=>Fg X (Ae rg h)) (vC9 (qvf hfy.out) (vC9 qv0 (vC9 qv0 (vC9 qv0 (vC9 (qvf hfy.out) (vC9 qv0 (vC9 (qv1 fun X h=>Fg X (Ae rg h)) (vC9 (qvf hfy.out) (vC9 (qvf hfy.out) (vC9 qv0 (vC9 qv0 (vC9 qv0 (vC9 qv0 (vC9 (qvf hud) (vC9 (qvf hud) (vC9 (qvf hud) (vC9 (qvf hud) (vC9 (qvf hud) (vC9 (qvf hud) (vC9 (qvf hud) (vC9 (qvf hud) (vC9 (qvf hud) (vC9 (qvf hud) (vC9 (qvf hud) (vC9 (qvf hud) (vC9 qv0 (vC9 (qvf hfy.out) trivial)))))))))))))))))))))))))))))))) ?_;rintro W h1;have stp:=St1 hB h1 rg;clear hB h1 rg sg;obtain⟨hB,rg⟩:=stp;have sg:=Fg _ rg;simp only[ve,Ah,Ak,Al]
         go_wp2;go_ret;exact⟨rfl,hB⟩
        ·rcases Az i with hi0|hi0
         ·have hn0:0<n:=oo
          have HI0:=hid hi0;clear hi0 hgc dc;have hfy:=hid (AD hiI (AD hs1 (AD hs2 (AD hn0 HI0.out))));go_wp2_with fail;refine jc [.slice (some ⟨g,0,none⟩) n c,.int .i64 (i:Int),.pointer (some ⟨g,i*3,none⟩),.pointer (some ⟨g,i*3,none⟩),.int .i64 x.s,.bool false,.bool false,.slice (some ⟨g,0,none⟩) n c,.int .i64 (i:Int),.pointer (some ⟨g,i*3,none⟩),.pointer (some ⟨g,i*3,none⟩),.int .i64 x.s,.bool false,.bool false,.bool false,.int .i64 (i:Int),.bool false,.bool false,undef,undef,undef,undef,undef,undef,undef,undef,undef,undef,undef,undef,.bool false,.bool false] kr9 kr9 rfl (vC9 qv0 (vC9 qv0 (vC9 (qvf hfy.out) (vC9 qv0 (vC9 (qv1 fun X h=>Fg X (Ae rg h)) (vC9 (qvf hfy.out) (vC9 qv0 (vC9 qv0 (vC9 qv0 (vC9 (qvf hfy.out) (vC9 qv0 (vC9 (qv1 fun X h=>Fg X (Ae rg h)) (vC9 (qvf hfy.out) (vC9 (qvf hfy.out) (vC9 qv0 (vC9 qv0 (vC9 (qvf hfy.out) (vC9 qv0 (vC9 qv0 (vC9 qv0 (vC9 qv0 (vC9 qv0 (vC9 qv0 (vC9 qv0 (vC9 qv0 (vC9 qv0 (vC9 qv0 (vC9 qv0 (vC9 qv0 (vC9 qv0 (vC9 (qvf hfy.out) (vC9 (qvf hfy.out) trivial)))))))))))))))))))))))))))))))) ?_;rintro W h1;have stp:=St1 hB h1 rg;clear hB h1 rg sg;obtain⟨hB,rg⟩:=stp;have sg:=Fg _ rg
          simp only[ve,Ah,Ak,Al];go_wp2;go_roundw
          case rel=>exact⟨i+1,by go_num,oo,hid (fun j hj=>by rcases AU.1 hj with h|rfl;(· exact HI.out j h);(· exact⟨⟨by rw[<- HX.out];omega,by rw[<- HX.out];omega,fun h=>by have:=HI0.out;omega⟩,by rw[<- HO.out];exact hbet⟩)),BW⟩
          case measure=>simp[RowKit.intOf];try omega
         ·obtain⟨j,hij⟩:∃ j,i=j+1:=⟨i-1,oo⟩
          have HIJ:=hid hij;have hjl:j<l.length:=oo
          obtain⟨g3,_,_⟩:=hgc j hjl;have ey:(uD l j).s=y:=by have:=HY.out hi0;rwa[hij,Ca]at this
          rw[ey]at g3;have hw1:IntKind.i64.wrap ((i:Int)-1)=(j:Int):=by rw[IntKind.wrap_i64];omega
          have hjI:(j:Int)<(n:Int):=oo
          have hi1:(0:Int)<(i:Int):=oo
          clear hgc ey hij dc Fg;have Fg:∀ X,Row X g (.cells gcur 34)->(g<X.heap.size/\X.cell? ⟨g,i*3,none⟩=some (.int .i64 x.s)/\X.cell? ⟨g,i*3+1,none⟩=some (.string (S q.num))/\X.cell? ⟨g,i*3+2,none⟩=some (.string (S (q.den:Int)))/\X.cell? ⟨g,j*3,none⟩=some (.int .i64 y)):=fun X h=>⟨h.1,Af h _ g0,Af h _ g1,Af h _ g2,Af h _ g3⟩
          have sg:=Fg _ rg;by_cases hs3:x.s<=y
          ·have hb:B=false:=AP.2 fun e=>by obtain⟨h7,h8⟩:=(HBI.out.1 e).2 i hlt;have:=h7.2.2 hi0;rw[<- HX.out,HY.out hi0]at this;omega
           subst hb;clear HX;have hfy:=hid (AD hiI (AD hs1 (AD hs2 (AD hi1 (AD hi0 (AD hw1 (AD hjI hs3)))))));go_wp2_with fail;refine jc [.slice (some ⟨g,0,none⟩) n c,.int .i64 (i:Int),.pointer (some ⟨g,i*3,none⟩),.pointer (some ⟨g,i*3,none⟩),.int .i64 x.s,.bool false,.bool false,.slice (some ⟨g,0,none⟩) n c,.int .i64 (i:Int),.pointer (some ⟨g,i*3,none⟩),.pointer (some ⟨g,i*3,none⟩),.int .i64 x.s,.bool false,.bool false,.bool false,.int .i64 (i:Int),.bool true,.bool true,.slice (some ⟨g,0,none⟩) n c,.int .i64 (i:Int),.int .i64 (j:Int),.pointer (some ⟨g,j*3,none⟩),.pointer (some ⟨g,j*3,none⟩),.int .i64 y,.slice (some ⟨g,0,none⟩) n c,.int .i64 (i:Int),.pointer (some ⟨g,i*3,none⟩),.pointer (some ⟨g,i*3,none⟩),.int .i64 x.s,.bool true,.bool true,.bool true] kr9 kr9 rfl (vC9 qv0 (vC9 qv0 (vC9 (qvf hfy.out) (vC9 qv0 (vC9 (qv1 fun X h=>Fg X (Ae rg h)) (vC9 (qvf hfy.out) (vC9 qv0 (vC9 qv0 (vC9 qv0 (vC9 (qvf hfy.out) (vC9 qv0 (vC9 (qv1 fun X h=>Fg X (Ae rg h)) (vC9 (qvf hfy.out) (vC9 (qvf hfy.out) (vC9 qv0 (vC9 qv0 (vC9 (qvf hfy.out) (vC9 qv0 (vC9 qv0 (vC9 qv0 (vC9 (qvf hfy.out) (vC9 (qvf hfy.out) (vC9 qv0 (vC9 (qv1 fun X h=>Fg X (Ae rg h)) (vC9 qv0 (vC9 qv0 (vC9 (qvf hfy.out) (vC9 qv0 (vC9 (qv1 fun X h=>Fg X (Ae rg h)) (vC9 (qvf hfy.out) (vC9 (qvf hfy.out) (vC9 (qvf hfy.out) trivial)))))))))))))))))))))))))))))))) ?_
           rintro W h1;have stp:=St1 hB h1 rg;clear hB h1 rg sg;obtain⟨hB,rg⟩:=stp;have sg:=Fg _ rg;simp only[ve,Ah,Ak,Al];go_wp2;go_ret;exact⟨rfl,hB⟩
          ·have hfy:=hid (AD hiI (AD hs1 (AD hs2 (AD hi1 (AD hi0 (AD hw1 (AD hjI hs3)))))));go_wp2_with fail;refine jc [.slice (some ⟨g,0,none⟩) n c,.int .i64 (i:Int),.pointer (some ⟨g,i*3,none⟩),.pointer (some ⟨g,i*3,none⟩),.int .i64 x.s,.bool false,.bool false,.slice (some ⟨g,0,none⟩) n c,.int .i64 (i:Int),.pointer (some ⟨g,i*3,none⟩),.pointer (some ⟨g,i*3,none⟩),.int .i64 x.s,.bool false,.bool false,.bool false,.int .i64 (i:Int),.bool true,.bool true,.slice (some ⟨g,0,none⟩) n c,.int .i64 (i:Int),.int .i64 (j:Int),.pointer (some ⟨g,j*3,none⟩),.pointer (some ⟨g,j*3,none⟩),.int .i64 y,.slice (some ⟨g,0,none⟩) n c,.int .i64 (i:Int),.pointer (some ⟨g,i*3,none⟩),.pointer (some ⟨g,i*3,none⟩),.int .i64 x.s,.bool false,.bool false,.bool false] kr9 kr9 rfl (vC9 qv0 (vC9 qv0 (vC9 (qvf hfy.out) (vC9 qv0 (vC9 (qv1 fun X h=>Fg X (Ae rg h)) (vC9 (qvf hfy.out) (vC9 qv0 (vC9 qv0 (vC9 qv0 (vC9 (qvf hfy.out) (vC9 qv0 (vC9 (qv1 fun X h=>Fg X (Ae rg h)) (vC9 (qvf hfy.out) (vC9 (qvf hfy.out) (vC9 qv0 (vC9 qv0 (vC9 (qvf hfy.out) (vC9 qv0 (vC9 qv0 (vC9 qv0 (vC9 (qvf hfy.out) (vC9 (qvf hfy.out) (vC9 qv0 (vC9 (qv1 fun X h=>Fg X (Ae rg h)) (vC9 qv0 (vC9 qv0 (vC9 (qvf hfy.out) (vC9 qv0 (vC9 (qv1 fun X h=>Fg X (Ae rg h)) (vC9 (qvf hfy.out) (vC9 (qvf hfy.out) (vC9 (qvf hfy.out) trivial)))))))))))))))))))))))))))))))) ?_
           rintro W h1;have stp:=St1 hB h1 rg;clear hB h1 rg sg;obtain⟨hB,rg⟩:=stp;have sg:=Fg _ rg;simp only[ve,Ah,Ak,Al];go_wp2;go_roundw
           case rel=>exact⟨i+1,by go_num,oo,hid (fun j hj=>by rcases AU.1 hj with h|rfl;(· exact HI.out j h);(· exact⟨⟨by rw[<- HX.out];omega,by rw[<- HX.out];omega,fun _=>by rw[<- HX.out,HY.out hi0];omega⟩,by rw[<- HO.out];exact hbet⟩)),BW⟩
           case measure=>simp[RowKit.intOf];try omega
   ·have hnl:¬ ((i:Int)<(n:Int)):=oo
    obtain rfl:n=i:=oo
    have hb:B=true:=HBI.out.2 ⟨trivial,fun j hj=>HI.out j hj⟩;subst hb;go_wp2;go_ret;exact⟨rfl,hB⟩
theorem jaH{f:Frm}(ho:f.Ok)(hd:FDig 200 f)(p:En)(c:Nat)(w:World)(hp:TAt 34 w p f.t):Calls prog 18 #[FV f p c] w (qa true w):=by
 have h:=vbv (l:=kN f.t) (oc:=some f.c) (orr:=some f.r) (ot:=fun i=>some (trD f.t i).c) p f.t.length c (kf f.t) w ⟨rfl,rfl,hd.c⟩ ⟨rfl,rfl,hd.r⟩ (fun i hi=>by rw[yQ hi];exact⟨rfl,rfl,hd.t _ (yk hi)⟩) hp;rw[zcY ho]at h;exact h
theorem vcu{l:List Trm}(hv:ValsOk l)(p:En)(c:Nat)(w:World)(hp:TAt 34 w p l):Calls prog 61 #[.slice p l.length c] w (qa true w):=by
 have h:=zb4 (l:=kN l) (ot:=fun i=>some (trD l i).c) p l.length c (kf l) w (fun i hi=>by rw[yQ hi];exact⟨rfl,rfl,hv.dig _ (yk hi)⟩) hp;rw[(qaZ (kf l)).2 ⟨hv.few,fun j hj=>⟨qaY hv.src j (by rw[kf];exact hj),kbq hv.unit j hj⟩⟩]at h;exact h
end Go.Proofs.YtdiecekagiledaaGreatDoor
