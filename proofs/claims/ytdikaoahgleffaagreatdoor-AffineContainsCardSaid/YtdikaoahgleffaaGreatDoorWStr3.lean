/-
 text: an integer as a string. The exported functions, over strings.
-/
import Derived.BigQuiet
import Derived.Deep.DeepMust
import Derived.Deep.QuietTactic
import Derived.Lib.AppendIntMem
import Derived.Shelf.SlSorted.Search
import Derived.Test.YtdikaoahgleffaaGreatDoorWBuild
import Derived.Test.YtdikaoahgleffaaGreatDoorWSig
set_option maxRecDepth 100000
set_option maxHeartbeats 2000000
namespace Go.Proofs.YtdikaoahgleffaaGreatDoor
open Go Go.RowKit Go.Lib Go.Shelf
theorem builder_keep {T e:TypeId} {B b:Nat} {bs:List Value} {W W':World} (h:Lib.IsBuilderF T e B b bs W) (hk:∀ (k:Nat) cs t f,W.heap[k]? = some (.cells cs t f)→W'.heap[k]? = some (.cells cs t f)):Lib.IsBuilderF T e B b bs W':=by
 have key:∀ p,Lib.BuilderAtF T e B b p bs W→Lib.BuilderAtF T e B b p bs W':=by
  rintro p ⟨hB,v,hb,hown,hne⟩;refine ⟨hB,v,hk _ _ _ _ hb,?_,hne⟩;refine ⟨hown.1,?_⟩;rcases hown.2 with h2 | ⟨g,cap,cur,fz,h1,h2,h3,h4⟩
  ·exact .inl h2
  ·exact .inr ⟨g,cap,cur,fz,h1,h2,hk _ _ _ _ h3,h4⟩
 exact h.elim (fun x => .inl (key _ x)) (fun x => .inr (key _ x))
def textStep (l:List Nat) (s:List UInt8) (i:Nat):List UInt8:=s ++ (if i+1<l.length then pad4 (gd l i) else decDigits (gd l i))
def textTo (l:List Nat) {m:Nat} (pre:List (Place m)):List UInt8:=pre.foldl (fun s i=>textStep l s i.1) []
theorem textTo_snoc (l:List Nat) {m:Nat} (pre:List (Place m)) (i:Place m):textTo l (pre ++ [i])=textStep l (textTo l pre) i.1:=by simp [textTo]
theorem textTo_len (l:List Nat) (hl:Small l) {m:Nat} (pre:List (Place m)):(textTo l pre).length≤4 * pre.length:=by
 have key:∀ (pre:List (Place m)) (s:List UInt8),(pre.foldl (fun s i=>textStep l s i.1) s).length≤s.length+4 * pre.length:=by
  intro pre
  induction pre with
  | nil=>intro s;simp
  | cons i pre ih =>
   intro s;have h1:=ih (textStep l s i.1);have h2:(textStep l s i.1).length≤s.length+4:=by
    unfold textStep;have h3:=hl.gd_lt i.1;rw [List.length_append];split
    ·rw [pad4_length h3];omega
    ·have h4:(decDigits (gd l i.1)).length≤4:=(dec_lt (gd l i.1) 4 (by decide)).2 h3;omega
   simp only [List.foldl_cons,List.length_cons];omega
 have:=key pre [];simpa [textTo] using this
theorem textTo_upto (l:List Nat) (m:Nat) (hm:m=l.length):∀ j,j≤m→textTo l (upto (bk m) j)=textH (l.reverse.take j):=by
 intro j
 induction j with
 | zero=>intro _;simp [upto,textTo,textH]
 | succ j ih =>
  intro hj;have e:(bk m j).1=m - (j+1):=by unfold bk;simp;omega
  rw [upto_succ,textTo_snoc,ih (by omega),e];have hg:l.reverse.take (j+1)=l.reverse.take j ++ [gd l (m - (j+1))]:=by
   rw [List.take_add_one];congr 1;rw [List.getElem?_reverse (by omega)];have:l.length - 1 - j=m - (j+1):=by omega
   rw [this,List.getElem?_eq_getElem (by omega)];unfold gd;rw [List.getD_eq_getElem?_getD,List.getElem?_eq_getElem (by omega)];rfl
  rw [hg];unfold textStep;rcases Nat.eq_zero_or_pos j with e0 | e0
  ·subst e0;rw [if_neg (by omega)];simp [textH]
  ·rw [if_pos (by omega)];rw [textH_snoc _ _ (by intro e;have h9:=congrArg List.length e;rw [List.length_take,List.length_reverse,List.length_nil] at h9;omega)]
theorem textTo_all (l:List Nat) (h:Norm l) (hn:l≠[]) (m:Nat) (hm:m=l.length):textTo l (upto (bk m) m)=decDigits (val l):=by
 rw [textTo_upto l m hm m (Nat.le_refl _),hm,List.take_of_length_le (by rw [List.length_reverse];exact Nat.le_refl _)];exact textH_norm h hn
def tText (z:Int):List UInt8:=if Fits z then itoa z else []
def tErr (z:Int):Int:=if Fits z then 0 else 30
attribute [local go_sem] Oper.semAt_some
theorem repeat_zeros:∀ c,Lib.repeatL [48] c=List.replicate c 48
 | 0=>rfl
 | c+1=>by rw [Lib.repeatL,repeat_zeros c];rfl
theorem itoa_group (d:Nat) (hd:d<10000) (w W:World) (htab:Lib.TabIs Tryz.prog w "internal/strconv.uint64pow10" .u64 Lib.pow10Tab) (hB:Below w.heap.size w W) :
  Calls Tryz.prog 160 #[.int .i64 (d:Int)] W fun e W'=>e = .returned (.string ⟨(decDigits d).toArray⟩)∧Below W.heap.size W W':=by
 refine (Tryz.strconv_Itoa (d:Int) (by omega) (by omega) W (tabBelow_of_tabIs htab W hB)).mono ?_;rintro e W' ⟨rfl,k,os,rfl⟩;exact ⟨by rw [itoa_nn],below_grown_sl _ _ _ _ (Nat.le_refl _)⟩
structure TextI (w:World) (A:Option Addr) (n c:Nat) (neg:Bool) (l:List Nat) (pre:List (Place n)) (W:World):Prop where
 x:W.heap[w.heap.size]? = some (.cells #[.bool neg,.slice A n c] 127 (0,0))
 s:Boxed W (w.heap.size+1+1) 125 (.slice A n c)
 b:Lib.IsBuilderF 171 5 (w.heap.size+1) (w.heap.size+1) (Lib.byteCells (textTo l pre)) W
 below:Below w.heap.size w W
theorem textI_own (w:World) (A:Option Addr) (n c:Nat) (neg:Bool) (l:List Nat) (Bl:Nat) (hBl:w.heap.size≤Bl):OwnFrom Bl (TextI w A n c neg l):=by
 intro pre X Y row hs hg hr;have hr':∀ r,row=some r→∃ o:Obj,X.heap[r]? = some o∧o.isCells=false:=fun r e=>(hr r e).2
 obtain ⟨h1,h2,h3,h4⟩:=hs;have hlt:∀ {b:Nat} {cs:Array Value} {t:TypeId} {f:Nat × Nat},X.heap[b]? = some (.cells cs t f)→b<X.heap.size:=fun h=>(Array.getElem?_eq_some_iff.1 h).1
 exact ⟨(hg.block _ (hlt h1) (boxed_key hr' h1)).trans h1,h2.kept hg (boxed_key hr' h2),builder_keep h3 (fun k cs t f hk=>(hg.block _ (hlt hk) (boxed_key hr' hk)).trans hk),h4.grown hg h4.size (fun k e=>Nat.le_trans hBl (hr k e).1)⟩
theorem text_round {w:World} {A:Option Addr} {n c:Nat} {neg:Bool} {l:List Nat} {pre:List (Place n)} {i:Place n} {W W2 W3:World} {st:List UInt8} (hI:TextI w A n c neg l pre W) (hB12:Below W.heap.size W W2)
  (hbd3:Lib.BuilderAtF 171 5 (w.heap.size+1) (w.heap.size+1) (.pointer (some ⟨w.heap.size+1,0,none⟩)) (Lib.byteCells (textTo l pre) ++ Lib.strCells ⟨st.toArray⟩) W3) (hb3:Below (w.heap.size+1) W2 W3)
  (ho3:Lib.OthersKept 5 (some (w.heap.size+1)) W2 W3) (hst:textTo l (pre ++ [i])=textTo l pre ++ st) :
  (∀ D,KeepsFrom D W W3)∧KpB w.heap.size (w.heap.size+1+1) W W3∧TextI w A n c neg l (pre ++ [i]) W3:=by
 obtain ⟨hX,hS,hBd,hB⟩:=hI;have hlt:∀ {b:Nat} {o:Obj},W.heap[b]? = some o→b<W.heap.size:=fun h=>(Array.getElem?_eq_some_iff.1 h).1
 have hbb:∃ p v,W2.heap[w.heap.size+1]? = some (.cells #[p,v] 171 (0,0)):=by
  rcases hBd with ⟨_,v,hb,_⟩ | ⟨_,v,hb,_⟩
  ·exact ⟨_,v,(hB12.block _ (hlt hb)).trans hb⟩
  ·exact ⟨_,v,(hB12.block _ (hlt hb)).trans hb⟩
 have hS2:W2.heap[w.heap.size+1+1]? = some (.cells #[.slice A n c] 125 (0,0)):=(hB12.block _ (hlt hS)).trans hS;have hS3:W3.heap[w.heap.size+1+1]? = some (.cells #[.slice A n c] 125 (0,0)):=ho3 _ _ hS2 (fun e=>by injection e;omega) (fun c fz e=>by injection e with _ h _;exact absurd h (by decide));have hX2:=(hB12.block _ (hlt hX)).trans hX;have hlX:=hlt hX;have hs12:=hB12.size;refine ⟨fun D=>(keepsFrom_of_below hB12).trans ⟨hb3.size,fun k o _ hk ho=>ho3 k o hk (fun e => ?_) (fun c fz e=>by subst e;cases ho)⟩,(KpB.of_below hB12 (by omega) (hlt hS)).trans ⟨hb3.mono (by omega),hS3.trans hS2.symm⟩,(hb3.block _ (by omega)).trans hX2,hS3,?_,(hB.trans (hB12.mono hB.size)).trans (hb3.mono (by omega))⟩
 ·obtain rfl:k=w.heap.size+1:=by injection e
  obtain ⟨p,v,hp⟩:=hbb;rw [hp] at hk;cases hk
  cases ho
 ·rw [hst,Lib.byteCells_append];exact .inr hbd3
theorem text_any (v:Value) (neg:Bool) (x:Nat) (w:World) (hv:IsSig w v neg x) (hx:x<10000 ^ 250) (htab:Lib.TabIs Tryz.prog w "internal/strconv.uint64pow10" .u64 Lib.pow10Tab) :
  Calls Tryz.prog 106 #[v] w fun e w'=>e = .returned (.tuple #[.string ⟨(tText (sv neg x)).toArray⟩,.int .i64 (tErr (sv neg x))])∧Below w.heap.size w w':=by
 obtain ⟨A,n,c,rfl,hn⟩:=hv;have hn1:=hn.le hx;have hn0:=hn.zero;clear hx;have hb0:(w.alloc (.cells #[.bool neg,.slice A n c] 127)).heap[w.heap.size]? = some (.cells #[.bool neg,.slice A n c] 127 (0,0)):=heap_alloc_new _ _;obtain ⟨c1,c2,_,_⟩:=two_facts hb0;refine (callsIn_wide (n:=3)).1 ?_;refine callsIn_of_wp_marks Tryz.func106 rfl trivial ?_ rfl;simp only [Tryz.ntmps106, List.size_toArray,List.length_cons,List.length_nil,Nat.reduceAdd,Nat.reduceSub,Array.replicate_succ,Array.replicate_zero,List.push_toArray,List.append_toArray,List.nil_append,List.cons_append];by_cases hz:x=0
 ·have hn00:n=0:=hn0.2 hz;subst hn00
  gi_wp2
  have hzz:tText (sv neg 0)=[48]∧tErr (sv neg 0)=0:=by
   have e:sv neg 0=0:=by cases neg <;> rfl
   rw [e];exact ⟨by unfold tText;rw [if_pos (by unfold Fits;decide)];rw [show (0:Int)=((0:Nat):Int) from rfl,itoa_nn,decDigits_zero],by unfold tErr;rw [if_pos (by unfold Fits;decide)]⟩
  subst hz;rw [hzz.1,hzz.2];refine ⟨_,?res0,rfl,(Below.refl _ w).alloc (Nat.le_refl _) _⟩
  case res0=>simp [results,Tryz.f106, go_sem]
 ·have hnp:0<n:=by
   rcases Nat.eq_zero_or_pos n with e | e
   ·exact absurd (hn0.1 e) hz
   ·exact e
  have hne:¬ ((n:Int)=0):=by omega
  gi_wp2_with (refine ⟨trivial,?_⟩;gi_at_call 159; refine (back_in _ _ _ _ _).mono ?_;rintro e w' ⟨rfl,rfl⟩)
  obtain ⟨l,hl,nl,vl,hnc⟩:=hn;have hln:=Lib.hid hl.len;have hI0:TextI w A n c neg l [] (((w.alloc (.cells #[.bool neg,.slice A n c] 127)).alloc (.cells #[.pointer none,.slice none 0 0] 171)).alloc (.cells #[.slice A n c] 125)):=by
   have e1:w.heap.size+1=(w.alloc (.cells #[.bool neg,.slice A n c] 127)).heap.size:=by simp
   have e2:w.heap.size+1+1=((w.alloc (.cells #[.bool neg,.slice A n c] 127)).alloc (.cells #[.pointer none,.slice none 0 0] 171)).heap.size:=by simp
   refine ⟨?_,?_,.inl ⟨Nat.le_refl _,.slice none 0 0,?_,?_,by simp [Value.ownBlock]⟩,(((Below.refl _ w).alloc (Nat.le_refl _) _).alloc (by simp) _).alloc (by simp;omega) _⟩
   ·rw [Below.heap_alloc _ _ _ (by simp;omega),Below.heap_alloc _ _ _ (by simp)];exact hb0
   ·rw [e2];exact Boxed.new _ _ _
   ·rw [Below.heap_alloc _ _ _ (by simp),e1];exact heap_alloc_new _ _
   ·simpa [textTo,Lib.byteCells] using World.ownsRowF_nil _ _ _ _
  generalize (((w.alloc (.cells #[.bool neg,.slice A n c] 127)).alloc (.cells #[.pointer none,.slice none 0 0] 171)).alloc (.cells #[.slice A n c] 125))=W0 at *;have hs2:w.heap.size+1+1<W0.heap.size:=hI0.s.lt;have htW:∀ W,Below w.heap.size w W→Lib.TabIs Tryz.prog W "internal/strconv.uint64pow10" .u64 Lib.pow10Tab:=fun W hW=>tabBelow_of_tabIs htab W hW
  refine wpIn_rangeFunc_ownG rfl (by omega) (gf := 193) (lb:=#[.pointer (some ⟨w.heap.size+1+1,0,none⟩)]) rfl trivial (enters_of Tryz.func193 (by kernel_rfl) rfl)
   (back_stops 2 (by omega) (w.heap.size+1+1) w.heap.size A n c l (by omega) _ (by omega) (by omega) hI0.s.cell (Reads.keep hl fun p hp=>hI0.below.cell hp)) KpB.trans (KpB.book (by omega) (by omega)) (Below.refl _ _) (fun _=>rfl)
   (TextI w A n c neg l) (fun _ _ _=>False) (textI_own _ _ _ _ _ _ _ (by omega)) (fun _ _ _ _ _ hs _ _=>hs) hI0
   ?a1 ?assign ?body ?done ?stop
  case assign =>
   intro q x W K hK
   gi_wp2
   exact hK
  case body =>
   rintro q pre i W hI hlt;have hiv:i.1<n:=by have:=i.2;omega
   have hd1:=nl.1.gd_lt i.1;obtain ⟨hX,hS,hBd,hB⟩:=hI;obtain ⟨d1,d2,_,_⟩:=two_facts hX;have hk4:(decDigits (gd l i.1)).length≤4:=(dec_lt (gd l i.1) 4 (by decide)).2 hd1;have hIt:=fun W' hB'=>itoa_group (gd l i.1) hd1 w W' htab hB'
   have hpad:Lib.repeatL [48] (4 - (decDigits (gd l i.1)).length) ++ decDigits (gd l i.1)=pad4 (gd l i.1):=by rw [repeat_zeros];rfl
   have hstep:textTo l (pre ++ [i])=textTo l pre ++ (if i.1+1<l.length then pad4 (gd l i.1) else decDigits (gd l i.1)):=by rw [textTo_snoc];rfl
   have hlen:=textTo_len l nl.1 pre;generalize hdg:decDigits (gd l i.1)=dg at *;have hpd4:(pad4 (gd l i.1)).length=4:=pad4_length hd1;generalize hpd:pad4 (gd l i.1)=pd at *;have hrl:(Lib.repeatL [48] (4 - dg.length)).length+dg.length=4:=by
    have:=congrArg List.length hpad;rw [List.length_append] at this;omega
   have hap:(({ data:=(Lib.repeatL [48] (4 - dg.length)).toArray }:ByteArray) ++ { data:=dg.toArray })=⟨pd.toArray⟩:=by
    apply ba_ext;rw [← hpad];simp [ByteArray.data_append]
   have hw4:=Lib.hid (show (4 - (dg.length:Int))=((4 - dg.length:Nat):Int) by omega);by_cases hil:i.1+1<n
   ·have hil':(i.1:Int)<(n:Int) - 1:=by omega
    gi_wp2_with (first
     | (refine ⟨trivial,?_⟩;gi_at_call 160; go_must (refine (CallsIn.inRound q (callsIn_wide.2 (hIt _ hB))).mono ?_;rintro e1 W1 ⟨rfl,hb1⟩;have hX1:=(hb1.block _ (Array.getElem?_eq_some_iff.1 hX).1).trans hX;obtain ⟨d3,d4,_,_⟩:=two_facts hX1))
     | (refine ⟨trivial,?_⟩;gi_at_call 161; go_must (rw [hw4.out];refine (CallsIn.inRound q (callsIn_wide.2 (Tryz.strings_Repeat ⟨#[48]⟩ (4 - dg.length) _ (by omega) (by simp [ByteArray.size];omega)))).mono ?_;rintro e1 W2 ⟨rfl,hb2⟩;have hB2:=hB.trans ((hb1.trans (hb2.mono hb1.size)).mono hB.size)))
     | (refine ⟨trivial,?_⟩;gi_at_call 162; go_must (refine (CallsIn.inRound q (callsIn_wide.2 (write_string (w.heap.size+1) (w.heap.size+1) (Lib.byteCells (textTo l pre)) ⟨pd.toArray⟩ _ (builder_keep hBd (fun k cs t f hk=>((hb1.trans (hb2.mono hb1.size)).block k (Array.getElem?_eq_some_iff.1 hk).1).trans hk)) (by rw [Lib.byteCells_length];simp [ByteArray.size];omega) (by have:=hB2.size;have:=hb2.size;have:=hb1.size;have:=hS.lt;omega)))).mono ?_;rintro e1 W3 ⟨rfl,hbd3,hb3,ho3⟩)))
    obtain ⟨r1,r2,r3⟩:=text_round (i:=i) ⟨hX,hS,hBd,hB⟩ (hb1.trans (hb2.mono hb1.size)) hbd3 hb3 ho3 (by rw [hstep,if_pos (by have:=hln.out;omega)]);exact ⟨r1 _,r2,r3⟩
   ·have hil':¬ (i.1:Int)<(n:Int) - 1:=by omega
    gi_wp2_with (first
     | (refine ⟨trivial,?_⟩;gi_at_call 160; go_must (refine (CallsIn.inRound q (callsIn_wide.2 (hIt _ hB))).mono ?_;rintro e1 W1 ⟨rfl,hb1⟩;have hX1:=(hb1.block _ (Array.getElem?_eq_some_iff.1 hX).1).trans hX;obtain ⟨d3,d4,_,_⟩:=two_facts hX1;have hB2:=hB.trans (hb1.mono hB.size)))
     | (refine ⟨trivial,?_⟩;gi_at_call 162; go_must (refine (CallsIn.inRound q (callsIn_wide.2 (write_string (w.heap.size+1) (w.heap.size+1) (Lib.byteCells (textTo l pre)) ⟨dg.toArray⟩ _ (builder_keep hBd (fun k cs t f hk=>(hb1.block k (Array.getElem?_eq_some_iff.1 hk).1).trans hk)) (by rw [Lib.byteCells_length];simp [ByteArray.size];omega) (by have:=hb1.size;have:=hS.lt;omega)))).mono ?_;rintro e1 W3 ⟨rfl,hbd3,hb3,ho3⟩)))
    obtain ⟨r1,r2,r3⟩:=text_round (i:=i) ⟨hX,hS,hBd,hB⟩ hb1 hbd3 hb3 ho3 (by rw [hstep,if_neg (by have:=hln.out;omega)]);exact ⟨r1 _,r2,r3⟩
  case done =>
   rintro D ys W hD rfl hI hK;have htx:=textTo_all l nl (by intro e;have:=hln.out;rw [e] at this;simp at this;omega) n hln.out;obtain ⟨hX,hS,hBd,hB⟩:=hI;rw [htx,vl] at hBd;obtain ⟨d1,d2,_,_⟩:=two_facts hX;have hdl:=dec_lt x 200 (by decide);clear htx;have hfx:Fits (sv neg x) ↔ x<10 ^ 200:=by
    have:(sv neg x).natAbs=x:=by cases neg <;> simp [sv]
    unfold Fits;rw [this]
   by_cases hfit:(decDigits x).length≤200
   ·have hF:=hfx.2 (hdl.1 hfit);have hv1:tText (sv neg x)=itoa (sv neg x)∧tErr (sv neg x)=0:=⟨by unfold tText;rw [if_pos hF],by unfold tErr;rw [if_pos hF]⟩
    cases neg with
    | true =>
     have he:itoa (sv true x)=45 :: decDigits x:=by simp only [sv,if_true];exact itoa_ng x (by omega)
     rw [he] at hv1;clear hdl hfx hF he;generalize hdx:decDigits x=dx at *;have HV:=Lib.hid hv1;clear hv1;have hap:(({ data:=#[45] }:ByteArray) ++ { data:=dx.toArray })=⟨(45 :: dx).toArray⟩:=by
      apply ba_ext;simp [ByteArray.data_append]
     gi_wp2_with (refine ⟨trivial,?_⟩;gi_at_call 163; go_must (refine (callsIn_wide.2 (Tryz.Builder_String_any_k (w.heap.size+1) (w.heap.size+1) dx _ hBd (by have:=hS.lt;omega))).mono ?_;rintro e1 W3 ⟨rfl,hbd3,hb3,ho3⟩;have hX3:=(hb3.block _ (by omega)).trans hX;obtain ⟨d3,d4,_,_⟩:=two_facts hX3))
     have hKD:W3.heap[D]? = some (.deferred (some [])):=ho3 D _ hK (fun e=>by injection e;omega) (fun c fz e=>by cases e);have hB4:Below w.heap.size w (W3.putObj D (.deferred none)):=(hB.trans (hb3.mono (by omega))).trans (belowK_b (w:=w) (Nat.le_refl _) W3 D _ _ (by omega) hKD rfl rfl);refine ⟨by simp,.inl ⟨_,_,rfl,run_takeDeferred hKD,?_⟩⟩;refine ⟨.tuple #[.string ⟨(45 :: dx).toArray⟩,.int .i64 0],?res1,?val,hB4⟩
     case res1=>simp [results,Tryz.f106, go_sem];first | done | rfl
     case val=>rw [HV.out.1,HV.out.2]
    | false =>
     have he:itoa (sv false x)=decDigits x:=by simp only [sv];exact itoa_nn x
     rw [he] at hv1;clear hdl hfx hF he;generalize hdx:decDigits x=dx at *;have HV:=Lib.hid hv1;clear hv1
     gi_wp2_with (refine ⟨trivial,?_⟩;gi_at_call 163; go_must (refine (callsIn_wide.2 (Tryz.Builder_String_any_k (w.heap.size+1) (w.heap.size+1) dx _ hBd (by have:=hS.lt;omega))).mono ?_;rintro e1 W3 ⟨rfl,hbd3,hb3,ho3⟩;have hX3:=(hb3.block _ (by omega)).trans hX;obtain ⟨d3,d4,_,_⟩:=two_facts hX3))
     have hKD:W3.heap[D]? = some (.deferred (some [])):=ho3 D _ hK (fun e=>by injection e;omega) (fun c fz e=>by cases e);have hB4:Below w.heap.size w (W3.putObj D (.deferred none)):=(hB.trans (hb3.mono (by omega))).trans (belowK_b (w:=w) (Nat.le_refl _) W3 D _ _ (by omega) hKD rfl rfl);refine ⟨by simp,.inl ⟨_,_,rfl,run_takeDeferred hKD,?_⟩⟩;refine ⟨.tuple #[.string ⟨dx.toArray⟩,.int .i64 0],?res1,?val,hB4⟩
     case res1=>simp [results,Tryz.f106, go_sem];first | done | rfl
     case val=>rw [HV.out.1,HV.out.2]
   ·have hF:¬ Fits (sv neg x):=fun h=>hfit (hdl.2 (hfx.1 h))
    have hv1:tText (sv neg x)=[]∧tErr (sv neg x)=30:=⟨by unfold tText;rw [if_neg hF],by unfold tErr;rw [if_neg hF]⟩
    have HV:=Lib.hid hv1;clear hdl hfx hF hv1;generalize hdx:decDigits x=dx at *;have hfit':200<dx.length:=by omega
    gi_wp2_with (refine ⟨trivial,?_⟩;gi_at_call 163; go_must (refine (callsIn_wide.2 (Tryz.Builder_String_any_k (w.heap.size+1) (w.heap.size+1) dx _ hBd (by have:=hS.lt;omega))).mono ?_;rintro e1 W3 ⟨rfl,hbd3,hb3,ho3⟩;have hX3:=(hb3.block _ (by omega)).trans hX;obtain ⟨d3,d4,_,_⟩:=two_facts hX3))
    have hKD:W3.heap[D]? = some (.deferred (some [])):=ho3 D _ hK (fun e=>by injection e;omega) (fun c fz e=>by cases e);have hB4:Below w.heap.size w (W3.putObj D (.deferred none)):=(hB.trans (hb3.mono (by omega))).trans (belowK_b (w:=w) (Nat.le_refl _) W3 D _ _ (by omega) hKD rfl rfl);refine ⟨by simp,.inl ⟨_,_,rfl,run_takeDeferred hKD,?_⟩⟩;refine ⟨.tuple #[.string ⟨#[]⟩,.int .i64 30],?res1,?val,hB4⟩
    case res1=>simp [results,Tryz.f106, go_sem];first | done | rfl
    case val=>rw [HV.out.1,HV.out.2]
  case stop =>
   rintro D cd pre W hD _ h;exact h.elim
end Go.Proofs.YtdikaoahgleffaaGreatDoor
namespace Go.Proofs.YtdikaoahgleffaaGreatDoor
open Go Go.RowKit Go.Lib Go.Shelf
abbrev Tab (w:World):Prop:=Lib.TabIs Tryz.prog w "internal/strconv.uint64pow10" .u64 Lib.pow10Tab
theorem Tab.below {w w':World} (h:Tab w) (hb:Below w.heap.size w w'):Tab w':=tabBelow_of_tabIs h w' hb
abbrev Str (a:ByteArray):Prop:=a.size≤9223372036854775807
theorem fits_mod {x:Int} (h:Fits x):Mod x.natAbs:=by
 refine mod_of_pow (K:=250) (Nat.lt_of_lt_of_le h ?_) (by decide);decide +kernel
theorem sum_lt {z:Nat} {neg:Bool} {x y:Int} (hx:Fits x) (hy:Fits y) (h:sv neg z=x+y):z<10000 ^ 250:=by
 have h1:z=(x+y).natAbs:=by rw [← h];cases neg <;> simp [sv]
 have h2:(10:Nat) ^ 200+10 ^ 200≤10000 ^ 250:=by decide +kernel
 unfold Fits at hx hy;generalize (10:Nat) ^ 200=T at *;generalize (10000:Nat) ^ 250=U at *;omega
theorem add_ok (a b:ByteArray) (x y:Int) (w:World) (ht:Tab w) (ha:a.data.toList=itoa x) (hb:b.data.toList=itoa y) (hx:Fits x) (hy:Fits y) (hsa:Str a) (hsb:Str b) :
  Calls Tryz.prog 37 #[.string a,.string b] w fun e w'=>e = .returned (.tuple #[.string ⟨(tText (x+y)).toArray⟩,.int .i64 (tErr (x+y))])∧Below w.heap.size w w':=by
 have mx:=fits_mod hx;have my:=fits_mod hy;have hsl:=fun (z:Nat) (neg:Bool) (h:sv neg z=x+y)=>sum_lt hx hy h
 have ax:=sv_abs x;have ay:=sv_abs y;go_enter Tryz.func37, Tryz.ntmps37;go_wp2_with (first
  | (go_at_call 104; go_must (refine (both_ok a b x y _ ha hb hx hy hsa hsb).mono ?_;rintro e w1 ⟨u,v,rfl,⟨A1,n1,k1,rfl,hu⟩,⟨A2,n2,k2,rfl,hv⟩,hb1⟩))
  | (go_at_call 105; go_must (refine (splus_any _ _ _ _ _ _ _ ⟨A1,n1,k1,rfl,hu.below (below2 w1 _ _)⟩ ⟨A2,n2,k2,rfl,hv.below (below2 w1 _ _)⟩ mx my).mono ?_;rintro e w2 ⟨r,nr,z,rfl,hr,hz,hb2⟩;rw [ax,ay] at hz;have hb12:Below w.heap.size w w2:=hb1.trans (((below2 w1 _ _).trans (hb2.mono (below2 w1 _ _).size)).mono hb1.size)))
  | (go_at_call 106; go_must (refine (text_any r nr z _ hr (hsl z nr hz) (ht.below hb12)).mono ?_;rintro e w3 ⟨rfl,hb3⟩;rw [hz])))
 go_wp2;refine bodyPost_ret (v := .tuple #[.string ⟨(tText (x+y)).toArray⟩,.int .i64 (tErr (x+y))]) ?res rfl ⟨rfl,hb12.trans (hb3.mono hb12.size)⟩
 case res=>simp [results,Tryz.f37, go_sem]
theorem sub_ok (a b:ByteArray) (x y:Int) (w:World) (ht:Tab w) (ha:a.data.toList=itoa x) (hb:b.data.toList=itoa y) (hx:Fits x) (hy:Fits y) (hsa:Str a) (hsb:Str b) :
  Calls Tryz.prog 38 #[.string a,.string b] w fun e w'=>e = .returned (.tuple #[.string ⟨(tText (x - y)).toArray⟩,.int .i64 (tErr (x - y))])∧Below w.heap.size w w':=by
 have mx:=fits_mod hx;have my:=fits_mod hy;have hsl:=fun (z:Nat) (neg:Bool) (h:sv neg z=x - y)=>sum_lt hx (y := -y) (by unfold Fits at *;rwa [Int.natAbs_neg]) h
 have ax:=sv_abs x;have ay:sv (!decide (y<0)) y.natAbs = -y:=by
  have:=sv_abs y;generalize decide (y<0)=d at *
  cases d <;> simp [sv] at * <;> omega
 go_enter Tryz.func38, Tryz.ntmps38;go_wp2_with (first
  | (go_at_call 104; go_must (refine (both_ok a b x y _ ha hb hx hy hsa hsb).mono ?_;rintro e w1 ⟨u,v,rfl,⟨A1,n1,k1,rfl,hu⟩,⟨A2,n2,k2,rfl,hv⟩,hb1⟩;generalize decide (y<0)=dy at *))
  | (go_at_call 105; go_must (refine (splus_any _ _ _ _ _ _ _ ⟨A1,n1,k1,rfl,hu.below (below2 w1 _ _)⟩ ⟨A2,n2,k2,rfl,hv.below (below2 w1 _ _)⟩ mx my).mono ?_;rintro e w2 ⟨r,nr,z,rfl,hr,hz,hb2⟩;rw [ax,ay,← Int.sub_eq_add_neg] at hz;have hb12:Below w.heap.size w w2:=hb1.trans (((below2 w1 _ _).trans (hb2.mono (below2 w1 _ _).size)).mono hb1.size)))
  | (go_at_call 106; go_must (refine (text_any r nr z _ hr (hsl z nr hz) (ht.below hb12)).mono ?_;rintro e w3 ⟨rfl,hb3⟩;rw [hz])))
 go_wp2;refine bodyPost_ret (v := .tuple #[.string ⟨(tText (x - y)).toArray⟩,.int .i64 (tErr (x - y))]) ?res rfl ⟨rfl,hb12.trans (hb3.mono hb12.size)⟩
 case res=>simp [results,Tryz.f38, go_sem]
end Go.Proofs.YtdikaoahgleffaaGreatDoor
namespace Go.Proofs.YtdikaoahgleffaaGreatDoor
open Go Go.RowKit Go.Lib Go.Shelf
theorem valid_any (s:ByteArray) (w:World) (hs:Str s) :
  Calls Tryz.prog 107 #[.string s] w fun e w'=>e = .returned (.bool (validB s.data.toList))∧Below w.heap.size w w':=by
 go_enter Tryz.func107, Tryz.ntmps107;go_wp2_with (go_at_call 154; go_must (refine (isValid_any s _ hs).mono ?_;rintro e w1 ⟨rfl,hb1⟩));go_ret;exact ⟨rfl,hb1⟩
theorem two_new2 (w:World) (u v:Array Value) (t:TypeId):((w.alloc (.cells u t)).alloc (.cells v t)).heap[w.heap.size]? = some (.cells u t (0,0))∧((w.alloc (.cells u t)).alloc (.cells v t)).heap[w.heap.size+1]? = some (.cells v t (0,0)):=by
 constructor
 ·rw [Below.heap_alloc _ _ _ (by simp)];exact heap_alloc_new _ _
 ·have:w.heap.size+1=(w.alloc (.cells u t)).heap.size:=by simp
  rw [this];exact heap_alloc_new _ _
theorem sv_mul (x y:Int):sv (decide (x<0) != decide (y<0)) (x.natAbs * y.natAbs)=x * y:=by
 have hx:=sv_abs x;have hy:=sv_abs y;have e:((x.natAbs * y.natAbs:Nat):Int)=(x.natAbs:Int) * (y.natAbs:Int):=by simp
 conv=>rhs;rw [← hx,← hy]
 generalize decide (x<0)=a;generalize decide (y<0)=b
 cases a <;> cases b <;> simp [sv,e,Int.neg_mul,Int.mul_neg]
theorem mul_lt {x y:Int} (hx:Fits x) (hy:Fits y):x.natAbs<10000 ^ 250∧y.natAbs<10000 ^ 250∧x.natAbs * y.natAbs<10000 ^ 250:=by
 have h2:(10:Nat) ^ 200 * 10 ^ 200≤10000 ^ 250:=by decide +kernel
 have h3:(10:Nat) ^ 200≤10000 ^ 250:=by decide +kernel
 have h4:x.natAbs * y.natAbs≤10 ^ 200 * y.natAbs:=Nat.mul_le_mul_right _ (Nat.le_of_lt hx);have h5:10 ^ 200 * y.natAbs<10 ^ 200 * 10 ^ 200:=Nat.mul_lt_mul_of_pos_left hy (Nat.pow_pos (by decide));exact ⟨Nat.lt_of_lt_of_le hx h3,Nat.lt_of_lt_of_le hy h3,Nat.lt_of_lt_of_le (Nat.lt_of_le_of_lt h4 h5) h2⟩
theorem mul_ok (a b:ByteArray) (x y:Int) (w:World) (ht:Tab w) (ha:a.data.toList=itoa x) (hb:b.data.toList=itoa y) (hx:Fits x) (hy:Fits y) (hsa:Str a) (hsb:Str b) :
  Calls Tryz.prog 110 #[.string a,.string b] w fun e w'=>e = .returned (.tuple #[.string ⟨(tText (x * y)).toArray⟩,.int .i64 (tErr (x * y))])∧Below w.heap.size w w':=by
 obtain ⟨lx,ly,lxy⟩:=mul_lt hx hy;have hsm:=sv_mul x y;have LX:=Lib.hid lx;have LY:=Lib.hid ly;have LXY:=Lib.hid lxy;clear lx ly lxy;go_enter Tryz.func110, Tryz.ntmps110;go_wp2_with (first
  | (go_at_call 104; go_must (refine (both_ok a b x y _ ha hb hx hy hsa hsb).mono ?_;rintro e w1 ⟨u,v,rfl,⟨A1,n1,k1,rfl,hu⟩,⟨A2,n2,k2,rfl,hv⟩,hb1⟩;generalize decide (x<0)=dx at *;generalize decide (y<0)=dy at *)))
 obtain ⟨m0,m1⟩:=two_new2 w1 #[.bool dx,.slice A1 n1 k1] #[.bool dy,.slice A2 n2 k2] 127;have hb2:=below2 w1 (.cells #[.bool dx,.slice A1 n1 k1] 127) (.cells #[.bool dy,.slice A2 n2 k2] 127);have hu2:=hu.below hb2;have hv2:=hv.below hb2;have hB:=hb1.trans (hb2.mono hb1.size);generalize ((w1.alloc (.cells #[.bool dx,.slice A1 n1 k1] 127)).alloc (.cells #[.bool dy,.slice A2 n2 k2] 127))=V at *;obtain ⟨c1,c2,_,_⟩:=two_facts m0;obtain ⟨c3,c4,_,_⟩:=two_facts m1;go_region_held3 (fun X=>X.cell? ⟨w1.heap.size,0,none⟩=some (.bool dx)∧X.cell? ⟨w1.heap.size,1,none⟩=some (.slice A1 n1 k1)∧X.cell? ⟨w1.heap.size+1,0,none⟩=some (.bool dy)∧X.cell? ⟨w1.heap.size+1,1,none⟩=some (.slice A2 n2 k2)) (first | exact ⟨c1,c2,c3,c4⟩ | exact ⟨d1,d2,d3,d4⟩ | exact ⟨e1,e2,e3,e4⟩) (first
  | (go_at_call 165; refine (times_any A1 A2 n1 k1 n2 k2 x.natAbs y.natAbs _ (by exact hu2) (by exact hv2) LX.out LY.out).mono ?_;rintro e W2 ⟨A3,n3,k3,rfl,h3,hb3'⟩;have hb3:=below_of_drew hb3';have g0:=(hb3.block _ (Array.getElem?_eq_some_iff.1 m0).1).trans m0;have g1:=(hb3.block _ (Array.getElem?_eq_some_iff.1 m1).1).trans m1;obtain ⟨d1,d2,_,_⟩:=two_facts g0;obtain ⟨d3,d4,_,_⟩:=two_facts g1;have hB2:=hB.trans (hb3.mono hB.size))
  | (go_at_call 106; refine (text_any _ (dx != dy) (x.natAbs * y.natAbs) _ ⟨A3,n3,k3,rfl,h3⟩ LXY.out (ht.below hB2)).mono ?_;rintro e W3 ⟨rfl,hb4⟩;rw [hsm];have q0:=(hb4.block _ (Array.getElem?_eq_some_iff.1 g0).1).trans g0;have q1:=(hb4.block _ (Array.getElem?_eq_some_iff.1 g1).1).trans g1;obtain ⟨e1,e2,_,_⟩:=two_facts q0;obtain ⟨e3,e4,_,_⟩:=two_facts q1))
 go_wp2;refine bodyPost_ret (v := .tuple #[.string ⟨(tText (x * y)).toArray⟩,.int .i64 (tErr (x * y))]) ?res rfl ⟨rfl,hB2.trans (hb4.mono hB2.size)⟩
 case res=>simp [results,Tryz.f110, go_sem]
theorem compare_ok (a b:ByteArray) (x y:Int) (w:World) (ha:a.data.toList=itoa x) (hb:b.data.toList=itoa y) (hx:Fits x) (hy:Fits y) (hsa:Str a) (hsb:Str b) :
  Calls Tryz.prog 108 #[.string a,.string b] w fun e w'=>e = .returned (.int .i64 (cmpZ x y))∧Below w.heap.size w w':=by
 have mx:=fits_mod hx;have my:=fits_mod hy;have hc1:0≤x→0≤y→cmpZ (x.natAbs:Int) (y.natAbs:Int)=cmpZ x y:=fun h1 h2=>by rw [show (x.natAbs:Int)=x by omega,show (y.natAbs:Int)=y by omega]
 have hc2:x<0→y<0→cmpZ (y.natAbs:Int) (x.natAbs:Int)=cmpZ x y:=fun h1 h2=>by unfold cmpZ;split <;> split <;> first | rfl | omega | (split <;> first | rfl | omega | (split <;> first | rfl | omega))
 have hc3:x<0→¬ y<0→cmpZ x y = -1:=fun h1 h2=>by unfold cmpZ;rw [if_pos (by omega)]
 have hc4:¬ x<0→y<0→cmpZ x y=1:=fun h1 h2=>by unfold cmpZ;rw [if_neg (by omega),if_pos (by omega)]
 by_cases h1:x<0 <;> by_cases h2:y<0
 all_goals have hbo:=both_ok a b x y w ha hb hx hy hsa hsb
 ·rw [decide_eq_true h1,decide_eq_true h2] at hbo;rw [← hc2 h1 h2];clear hc1 hc2 hc3 hc4;go_enter Tryz.func108, Tryz.ntmps108;go_wp2_with (first
   | (go_at_call 104; go_must (refine hbo.mono ?_;rintro e w1 ⟨u,v,rfl,⟨A1,n1,k1,rfl,hu⟩,⟨A2,n2,k2,rfl,hv⟩,hb1⟩))
   | (go_at_call 157; go_must (refine (compare_any A2 A1 n2 k2 n1 k1 _ _ _ (hv.below (below2 w1 _ _)) (hu.below (below2 w1 _ _)) my mx).mono ?_;rintro e w2 ⟨rfl,hb2⟩)))
  go_ret;exact ⟨rfl,hb1.trans (((below2 w1 _ _).trans (hb2.mono (below2 w1 _ _).size)).mono hb1.size)⟩
 ·rw [decide_eq_true h1,decide_eq_false h2] at hbo;rw [hc3 h1 h2];clear hc1 hc2 hc3 hc4;go_enter Tryz.func108, Tryz.ntmps108;go_wp2_with (go_at_call 104; go_must (refine hbo.mono ?_;rintro e w1 ⟨u,v,rfl,⟨A1,n1,k1,rfl,hu⟩,⟨A2,n2,k2,rfl,hv⟩,hb1⟩));go_ret;exact ⟨rfl,hb1.trans ((below2 w1 _ _).mono hb1.size)⟩
 ·rw [decide_eq_false h1,decide_eq_true h2] at hbo;rw [hc4 h1 h2];clear hc1 hc2 hc3 hc4;go_enter Tryz.func108, Tryz.ntmps108;go_wp2_with (go_at_call 104; go_must (refine hbo.mono ?_;rintro e w1 ⟨u,v,rfl,⟨A1,n1,k1,rfl,hu⟩,⟨A2,n2,k2,rfl,hv⟩,hb1⟩));go_ret;exact ⟨rfl,hb1.trans ((below2 w1 _ _).mono hb1.size)⟩
 ·rw [decide_eq_false h1,decide_eq_false h2] at hbo;rw [← hc1 (by omega) (by omega)];clear hc1 hc2 hc3 hc4;go_enter Tryz.func108, Tryz.ntmps108;go_wp2_with (first
   | (go_at_call 104; go_must (refine hbo.mono ?_;rintro e w1 ⟨u,v,rfl,⟨A1,n1,k1,rfl,hu⟩,⟨A2,n2,k2,rfl,hv⟩,hb1⟩))
   | (go_at_call 157; go_must (refine (compare_any A1 A2 n1 k1 n2 k2 _ _ _ (hu.below (below2 w1 _ _)) (hv.below (below2 w1 _ _)) mx my).mono ?_;rintro e w2 ⟨rfl,hb2⟩)))
  go_ret;exact ⟨rfl,hb1.trans (((below2 w1 _ _).trans (hb2.mono (below2 w1 _ _).size)).mono hb1.size)⟩
end Go.Proofs.YtdikaoahgleffaaGreatDoor
namespace Go.Proofs.YtdikaoahgleffaaGreatDoor
open Go Go.RowKit Go.Lib Go.Shelf
theorem IsNum.unique {w:World} {A:Option Addr} {n c d p q:Nat} (h:IsNum w A n c p) (k:IsNum w A n d q):p=q:=by
 obtain ⟨l,h1,h2,rfl,_⟩:=h;obtain ⟨m,k1,k2,rfl,_⟩:=k;have hl:=h1.len;have hm:=k1.len;congr 1;refine List.ext_getElem (by omega) (fun j hj hj' => ?_);have hn:0<n:=by omega
 obtain ⟨ad,e,_,hc⟩:=h1.2 hn;obtain ⟨ad',e',_,hc'⟩:=k1.2 hn;rw [e] at e';injection e' with e';subst e';have g1:=hc j _ (ints_get l j hj);have g2:=hc' j _ (ints_get m j hj');rw [g1] at g2;injection g2 with g2;injection g2 with _ g2;have g3:l.getD j 0=m.getD j 0:=by omega
 rw [List.getD_eq_getElem?_getD,List.getD_eq_getElem?_getD,List.getElem?_eq_getElem hj,List.getElem?_eq_getElem hj'] at g3;exact g3
open Classical in
noncomputable def numOf (w:World) (v:Value):Nat:=if h:∃ q A n c,v = .slice A n c∧IsNum w A n c q then h.choose else 0
theorem numOf_eq {w:World} {A:Option Addr} {n c q:Nat} (h:IsNum w A n c q):numOf w (.slice A n c)=q:=by
 have hx:∃ q A' n' c',Value.slice A n c = .slice A' n' c'∧IsNum w A' n' c' q:=⟨q,A,n,c,rfl,h⟩
 unfold numOf;rw [dif_pos hx];obtain ⟨A',n',c',e,h'⟩:=hx.choose_spec;injection e with e1 e2 e3;subst e1 e2;exact h'.unique h
theorem gcd_fits {x y:Int} (hx:Fits x) (hy:Fits y):Fits ((x.natAbs.gcd y.natAbs:Nat):Int):=by
 unfold Fits at *;rw [Int.natAbs_natCast];rcases Nat.eq_zero_or_pos x.natAbs with h | h
 ·rw [h,Nat.gcd_zero_left];exact hy
 ·exact Nat.lt_of_le_of_lt (Nat.gcd_le_left _ h) hx
theorem gcd_ok (a b:ByteArray) (x y:Int) (w:World) (ht:Tab w) (ha:a.data.toList=itoa x) (hb:b.data.toList=itoa y) (hx:Fits x) (hy:Fits y) (hsa:Str a) (hsb:Str b) :
  Calls Tryz.prog 109 #[.string a,.string b] w fun e w'=>e = .returned (.tuple #[.string ⟨(itoa ((x.natAbs.gcd y.natAbs:Nat):Int)).toArray⟩,.int .i64 0])∧Below w.heap.size w w':=by
 obtain ⟨lx,ly,_⟩:=mul_lt hx hy;have LX:=Lib.hid lx;have LY:=Lib.hid ly;clear lx ly;go_enter Tryz.func109, Tryz.ntmps109;go_wp2_with (first
  | (go_at_call 104; go_must (refine (both_ok a b x y _ ha hb hx hy hsa hsb).mono ?_;rintro e w1 ⟨u,v,rfl,⟨A1,n1,k1,rfl,hu⟩,⟨A2,n2,k2,rfl,hv⟩,hb1⟩;generalize decide (x<0)=dx at *;generalize decide (y<0)=dy at *)))
 obtain ⟨m0,m1⟩:=two_new2 w1 #[.bool dx,.slice A1 n1 k1] #[.bool dy,.slice A2 n2 k2] 127;have hb2:=below2 w1 (.cells #[.bool dx,.slice A1 n1 k1] 127) (.cells #[.bool dy,.slice A2 n2 k2] 127);have hu2:=hu.below hb2;have hv2:=hv.below hb2;have hB:=hb1.trans (hb2.mono hb1.size);generalize ((w1.alloc (.cells #[.bool dx,.slice A1 n1 k1] 127)).alloc (.cells #[.bool dy,.slice A2 n2 k2] 127))=V at *;obtain ⟨c1,c2,_,_⟩:=two_facts m0;obtain ⟨c3,c4,_,_⟩:=two_facts m1;have hmx:Tryz.prog.follows .mixedOrders=true:=by kernel_rfl
 go_quiet (fail);go_wp2;go_loopw [9,10] (fun kv lv wr=>∃ (A:Option Addr) (n c:Nat) (B:Option Addr) (m e p q:Nat),kv = .slice A n c∧lv = .slice B m e∧IsNum wr A n c p∧IsNum wr B m e q∧p.gcd q=x.natAbs.gcd y.natAbs∧Below w.heap.size w wr∧Hid (p<10000 ^ 250)∧Hid (q<10000 ^ 250))
  (fun _ lv wr=>numOf wr lv)
 case atStart=>exact ⟨A1,n1,k1,A2,n2,k2,_,_,rfl,rfl,hu2,hv2,rfl,below_drewN hB _,LX,LY⟩
 case round =>
  obtain ⟨A,n,c,B,m,e,p,q,rfl,rfl,hp,hq,hg,hBr,HP,HQ⟩:=hrel;have hq0:=hq.zero;by_cases hz:q=0
  ·have hm0:m=0:=hq0.2 hz;subst hm0;rw [hz,Nat.gcd_zero_right] at hg;have hF:=gcd_fits hx hy;have hte:tText (sv false p)=itoa ((x.natAbs.gcd y.natAbs:Nat):Int)∧tErr (sv false p)=0:=by
    have e:sv false p=((x.natAbs.gcd y.natAbs:Nat):Int):=by simp [sv,hg]
    rw [e];exact ⟨by unfold tText;rw [if_pos hF],by unfold tErr;rw [if_pos hF]⟩
   have HT:=Lib.hid hte;clear hte hF hg hq0 hz;go_wp2_with (go_at_call 106; go_must (refine (text_any _ false p _ ⟨A,n,c,rfl,hp⟩ HP.out (ht.below hBr)).mono ?_;rintro e w3 ⟨rfl,hb3⟩;rw [HT.out.1,HT.out.2]));refine bodyPost_ret (v := .tuple #[.string ⟨(itoa ((x.natAbs.gcd y.natAbs:Nat):Int)).toArray⟩,.int .i64 0]) ?res rfl ⟨rfl,hBr.trans (hb3.mono hBr.size)⟩
   case res=>simp [results,Tryz.f109, go_sem]
  ·have hm0:0<m:=by
    rcases Nat.eq_zero_or_pos m with h | h
    ·exact absurd (hq0.1 h) hz
    ·exact h
   have hqp:0<q:=by omega
   clear hq0;go_wp2_with (go_at_call 164; go_must (refine (over_any A B n c m e p q _ hp hq HP.out HQ.out hqp).mono ?_;rintro e' w3 ⟨Aq,nq,cq,Ar,nr,cr,rfl,hqq,hrr,hb3⟩));go_roundw
   case rel=>exact ⟨B,m,e,Ar,nr,cr,q,p % q,rfl,rfl,hq.below hb3,hrr,by rw [← hg,Nat.gcd_comm p q,Nat.gcd_rec q p,Nat.gcd_comm],hBr.trans (hb3.mono hBr.size),HQ,Nat.lt_trans (Nat.mod_lt _ hqp) HQ.out⟩
   case measure=>rw [numOf_eq hrr,numOf_eq hq];exact Nat.mod_lt _ hqp
end Go.Proofs.YtdikaoahgleffaaGreatDoor
