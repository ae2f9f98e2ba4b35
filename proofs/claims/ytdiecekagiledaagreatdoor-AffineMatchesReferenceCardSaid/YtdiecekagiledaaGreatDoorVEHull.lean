/- Package enclosure: that no interval of a slice is invalid; must; an. -/
import Derived.Test.YtdiecekagiledaaGreatDoorVEValid
set_option maxRecDepth 100000
set_option maxHeartbeats 4000000
namespace Go.Proofs.YtdiecekagiledaaGreatDoor
open Go Go.RowKit Go.Lib Go.Shelf Go.Proofs.Tryz
def QIs(q:Rat)(w:World)(e:Ending)(w':World):Prop:=e=.returned (Q q)/\Aa w w'
theorem qc5(a:Iv)(ha:IDig 200 a)(ho:a.Ok)(w:World)(he:Env w):Calls prog 165 #[I a] w (qa false w):=by
 have hB:=Ab w;have h1:=fun W (h:Env W)=>zcR a ha W h
 have ho2:a.lo<=a.hi:=ho;rw[decide_eq_true ho2]at h1;clear ho ho2;show Calls prog 165 #[.agg #[.string (S a.lo.num),.string (S (a.lo.den:Int)),.string (S a.hi.num),.string (S (a.hi.den:Int))]] w _;go_enter func165,ntmps165;go_wp2_with fail;have sB:=hB.size;refine za (fun X=>Aa w X/\Row X w.heap.size (oI a.lo a.hi)) ⟨yJ,C2⟩ ?_;clear hB sB;rintro V1⟨hB,ra⟩;have sa:=AM ra;refine(h1 _ (he.below hB)).mono ?_;rintro e W2⟨rfl,h1⟩;clear sa;replace hB:=Em hB h1;replace ra:=Ae ra h1;clear h1;have sa:=AM ra;go_wp2;go_ret;exact⟨rfl,hB⟩
theorem ycS(G:FuncId)(eg:∀ args w,(callFunc G args).run prog w=.ok (.enter G args) w)(s:Nat)(a:Iv)(w:World)(r0:Row w s (oI a.lo a.hi))
  (ha:∀ W,Aa w W->Calls prog G #[I a] W (qa false W)) :
  Calls prog 191 #[.slice (some ⟨s,0,none⟩) 1 1,.func (.func G) #[] #[]] w fun e w'=>e=.returned (.int .i64 (-1))/\Aa w w':=by
 unfold I at ha;go_enter func191,ntmps191;go_wp2;go_loopw[8] (fun iv wr=>∃(k:Nat),k<=1/\iv=.int .i64 (k:Int)/\Row wr s (oI a.lo a.hi)/\Aa w wr) (fun iv _=>1-(RowKit.intOf iv).toNat)
 case atStart=>exact⟨0,oo,rfl,r0,Au _ _⟩
 case round =>
  obtain⟨k,hk,rfl,hr,hB'⟩:=hrel;obtain⟨s0,c0,c1,c2,c3,f0,f1,f2,f3⟩:=AM hr;rcases(show k=0\/k=1 by omega)with rfl|rfl
  ·go_wp2_with (go_at_fn G;refine(ha _ hB').mono ?_;rintro e W1⟨rfl,h1⟩);exact⟨⟨1,oo,rfl,Ae hr h1,hB'.trans (h1.mono hB'.size)⟩,by simp[RowKit.intOf]⟩
  ·go_wp2;go_ret;exact⟨rfl,hB'⟩
theorem vbR(G:FuncId)(eg:∀ args w,(callFunc G args).run prog w=.ok (.enter G args) w)(s:Nat)(a:Iv)(w:World)(r0:Row w s (oI a.lo a.hi))
  (ha:∀ W,Aa w W->Calls prog G #[I a] W (qa false W)) :
  Calls prog 164 #[.slice (some ⟨s,0,none⟩) 1 1,.func (.func G) #[] #[]] w (qa false w):=by
 have H:=ycS G eg s a w r0 ha;go_enter func164,ntmps164;go_wp2_with fail;refine H.mono ?_;rintro e W⟨rfl,h1⟩;go_wp2;go_ret;exact⟨rfl,h1⟩
theorem kch(q:Rat)(w:World):Calls prog 133 #[Q q,.int .i64 0] w (QIs q w):=by
 have hB:=Ab w;unfold QIs Q;go_enter func133,ntmps133;go_wp2_with fail;have sB:=hB.size;refine za (fun X=>Aa w X/\Row X w.heap.size (oR q)/\Row X (w.heap.size+1) oR0) ⟨yJ,C2,C2⟩ ?_;clear hB sB;rintro V1⟨hB,rx,ro⟩;have sx:=Av rx;have so:=Av ro;refine(yw _).mono ?_;rintro e W2⟨rfl,h1⟩;clear sx so;replace hB:=Em hB h1;replace rx:=Ae rx h1;replace ro:=Ae ro h1;clear h1;have sx:=Av rx;have so:=Av ro;go_wp2;have sB:=hB.size;refine vc (kp1 hB rx fun X=>Row X (w.heap.size+1) (oR q)) ⟨yJ,ycZ,zaP⟩ ?_;unfold kp1;clear rx sx ro so hB sB;rintro V3⟨hB,rx,ro⟩;have sx:=Av rx;have so:=Av ro;refine bodyPost_ret (v:=Ac q) ?res rfl ⟨rfl,hB⟩
 case res=>simp[results,results133,go_sem,so]
end Go.Proofs.YtdiecekagiledaaGreatDoor
