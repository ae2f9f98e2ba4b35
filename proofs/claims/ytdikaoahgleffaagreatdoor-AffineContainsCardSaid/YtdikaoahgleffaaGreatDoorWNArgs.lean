/-
 Package affine: Round, at valid forms, where nothing is too large. AffineContains: the law, out of its walk. Arguments that are the integers of a form: a struct of two integers and an array of six.
-/
import Derived.Deep.Slices
import Derived.WideKeyArr2
import Derived.Test.YtdikaoahgleffaaGreatDoorWAAt
import Derived.Test.YtdikaoahgleffaaGreatDoorWAContWalk
import Derived.Test.YtdikaoahgleffaaGreatDoorWAInvN
import Derived.Test.YtdikaoahgleffaaGreatDoorWALine
import Derived.Test.YtdikaoahgleffaaGreatDoorWARndPlain
import Derived.Test.YtdikaoahgleffaaGreatDoorWERound
import Derived.Test.YtdikaoahgleffaaGreatDoorWEnv8
import Derived.Test.YtdikaoahgleffaaGreatDoorWR8
import Derived.Test.YtdikaoahgleffaaGreatDoorWR8At
set_option linter.unusedSimpArgs false
set_option linter.unusedVariables false
set_option maxRecDepth 100000
set_option maxHeartbeats 16000000
namespace Go.Proofs.YtdikaoahgleffaaGreatDoor
open Go Go.RowKit Go.Lib Go.Shelf
attribute [local go_sem] normalQ
theorem grown_of_below {w w':World} (row:Option Nat) (hb:Below w.heap.size w w'):w.grownBy w' row:=⟨hb.os,hb.tape,hb.output,hb.size,fun i hi _=>hb.block i hi⟩
theorem grown_new {a w:World} {r b i:Nat} {v:Value} (h:a.grownBy w (some r)) (hb:a.heap.size≤b):a.grownBy (w.setCell ⟨b,i,none⟩ v) (some r) :=
 ⟨h.os,h.tape,h.output,by simpa [World.setCell] using h.size,fun k hk hr=>(Below.heap_setCell _ _ _ _ (fun e=>by subst e;omega)).trans (h.block k hk hr)⟩
theorem grown_own {a w:World} {r i:Nat} {v:Value} (h:a.grownBy w (some r)):a.grownBy (w.setCell ⟨r,i,none⟩ v) (some r) :=
 ⟨h.os,h.tape,h.output,by simpa [World.setCell] using h.size,fun k hk hr=>(Below.heap_setCell _ _ _ _ (fun e=>hr (by simp [e]))).trans (h.block k hk hr)⟩
theorem Row.grown {a w:World} {r b:Nat} {o:Obj} (h:Row a b o) (hg:a.grownBy w (some r)) (hne:b≠r):Row w b o:=⟨Nat.lt_of_lt_of_le h.1 hg.size,(hg.block b h.1 (fun e=>hne (by simpa using e))).trans h.2⟩
theorem UAt.grown {T U:TypeId} {W W':World} {p:Option Addr} {l:List RT} {r:Nat} {vs:Array Value} (h:UAt T W p l) (hg:W.grownBy W' (some r)) (hr:Row W r (.cells vs U)) (hne:U≠T):UAt T W' p l:=by
 rcases h with h | ⟨g,cur,e,h1,h2⟩
 ·exact .inl h
 ·refine .inr ⟨g,cur,e,Row.grown h1 hg (fun e2 => ?_),h2⟩;subst e2;have:=h1.2.symm.trans hr.2;injection this with this;injection this with _ h4;exact hne h4.symm
theorem own_grown {n₀:Nat} {T:TypeId} {k n r:Nat} {v:Value} {xs:List Value} {A B:World} (h:A.ownsRow n₀ T k v n xs) (hg:A.grownBy B (some r)) (hr:r<n₀):B.ownsRow n₀ T k v n xs :=
 ⟨h.1,h.2.elim .inl fun ⟨g,cap,cur,e,h0,h1,rest⟩ => .inr ⟨g,cap,cur,e,h0,(hg.block g (Array.getElem?_eq_some_iff.1 h1).1 (fun e2=>by simp at e2;omega)).trans h1,rest⟩⟩
theorem Row.set3bc {W:World} {b:Nat} {v0 v1 v2 u1 u2:Value} {t:TypeId} (h:Row W b (.cells #[v0,v1,v2] t)):Row ((W.setCell ⟨b,1,none⟩ u1).setCell ⟨b,2,none⟩ u2) b (.cells #[v0,u1,u2] t):=(h.set_same rfl).set_same rfl
theorem own_set3r {n₀:Nat} {T:TypeId} {k n b:Nat} {v u1 u2:Value} {xs:List Value} {A:World} (h:A.ownsRow n₀ T k v n xs) (hne:∀ j,v.ownBlock=some j→j<b):((A.setCell ⟨b,1,none⟩ u1).setCell ⟨b,2,none⟩ u2).ownsRow n₀ T k v n xs :=
 ownsRow_setCell_other (ownsRow_setCell_other h (a:=⟨b,1,none⟩) (fun e=>by have:=hne _ e;simp at this) _) (a:=⟨b,2,none⟩) (fun e=>by have:=hne _ e;simp at this) _
theorem amustR (z1 z2:ByteArray) (w:World):Calls Tryz.prog 63 #[.agg #[.string z1,.string z2],.int .i64 0] w (fun e w'=>e = .returned (.agg #[.string z1,.string z2])∧Below w.heap.size w w'):=by
 have hB:Below w.heap.size w w:=Below.refl _ _;go_enter Tryz.func63, Tryz.ntmps63;go_wp2_with fail;have d0_o:w.heap.size≤w.heap.size+1:=by have:=hB.size;omega
 have sB:=hB.size;refine world_cut (fun X=>Below w.heap.size w X∧Row X w.heap.size (.cells #[.string z1,.string z2] 27)∧Row X (w.heap.size+1) oR0) ⟨BW,RW8,RW8⟩ ?_;clear hB sB;rintro V1 ⟨hB,rx,ro⟩;have sx:=RF2 rx;have so:=RFz2 ro;refine (acheck_true _).mono ?_;rintro e W2 ⟨rfl,h1⟩;have stp:=St2 hB h1 rx ro;clear hB h1 rx sx ro so;obtain ⟨hB,rx,ro⟩:=stp;have sx:=RF2 rx;have so:=RFz2 ro;go_wp2_with fail;have sB:=hB.size;refine post_cut (fun X=>Below w.heap.size w X∧Row X (w.heap.size+1) (.cells #[.string z1,.string z2] 27)) ⟨BW,RW8⟩ ?_;clear rx sx ro so hB sB;rintro V3 ⟨hB,ro⟩;have so:=RFz2 ro;refine bodyPost_ret (v := .agg #[.string z1,.string z2]) ?res rfl ⟨rfl,hB⟩
 case res=>simp [results,Tryz.results63, go_sem,so]
def DownRes (bl:Nat) (d y:Rat) (w:World) (e:Ending) (w':World):Prop:=e = .returned (Q d)∧Row w' bl (oN y)∧w.grownBy w' (some bl)
theorem adown1 {p:Nat} {r x:Rat} (hr:QDig 150 r) (hp:p≤30) (hs:SF r (dn r (TT p))) (ha:AF x (r - dn r (TT p))) (bn bl:Nat) (w:World) (rn:Row w bn (.cells #[.int .i64 (p:Int)] 3)) (rl:Row w bl (oN x)) (hne:bn≠bl) (he:Env w):Calls Tryz.prog 62 #[Q r,.pointer (some ⟨bn,0,none⟩),.pointer (some ⟨bl,0,none⟩)] w (DownRes bl (dn r (TT p)) (x+(r - dn r (TT p))) w):=by
 have hB:Below w.heap.size w w:=Below.refl _ _;have FN:=fnum;have MD:=fun W (H:Env W)=>qdown r p hr hp (by omega) W H
 have MM:=fun W=>amustR (S (dn r (TT p)).num) (S ((dn r (TT p)).den:Int)) W
 have MS:=fun W (H:Env W)=>nsub hs W H
 have MA:=fun W (H:Env W)=>nadd ha W H
 generalize x+(r - dn r (TT p))=y at *;generalize r - dn r (TT p)=g at *;generalize dn r (TT p)=d at *;unfold QOk at MD;unfold QIs at MS MA;unfold DownRes;unfold Q at *;have sl:=rl.1;clear hr hs ha hp;have sn:=RF1 rn;have sl:=RFz2 rl;go_enter Tryz.func62, Tryz.ntmps62;go_wp2_with fail;have dl_r:bl<w.heap.size:=by omega
 have dn_o:bn<w.heap.size+1:=by omega
 have dl_o:bl<w.heap.size+1:=by omega
 have d0_o:w.heap.size≤w.heap.size+1:=by have:=hB.size;omega
 have sB:=hB.size;refine world_cut (kp2 hB rn rl fun X=>Row X w.heap.size (oR r)∧Row X (w.heap.size+1) oR0) ⟨BW,RW8,RW8,RW8,RW8⟩ ?_;unfold kp2;clear rn sn rl sl hB sB;rintro V1 ⟨hB,rn,rl,rr,ro⟩;have sn:=RF1 rn;have sl:=RFz2 rl;have sr:=RF2 rr;have so:=RFz2 ro;refine (MD _ (he.below hB)).mono ?_;rintro e W2 ⟨rfl,h1⟩;have stp:=St4 hB h1 rn rl rr ro;clear hB h1 rn sn rl sl rr sr ro so;obtain ⟨hB,rn,rl,rr,ro⟩:=stp;have sn:=RF1 rn;have sl:=RFz2 rl;have sr:=RF2 rr;have so:=RFz2 ro;go_wp2_with fail;refine (MM _).mono ?_;rintro e W3 ⟨rfl,h1⟩;have stp:=St4 hB h1 rn rl rr ro;clear hB h1 rn sn rl sl rr sr ro so;obtain ⟨hB,rn,rl,rr,ro⟩:=stp;have sn:=RF1 rn;have sl:=RFz2 rl;have sr:=RF2 rr;have so:=RFz2 ro;go_wp2_with fail;have dl_u:bl<W3.heap.size:=by omega
 have dr_u:w.heap.size<W3.heap.size:=by omega
 have do_u:w.heap.size+1<W3.heap.size:=by omega
 have d0_u:w.heap.size≤W3.heap.size:=by have:=hB.size;omega
 have sB:=hB.size;refine wp_cut (kp3 hB rl rr ro fun X=>Row X W3.heap.size (oR d)) ⟨BW,RW8,RW8,RW8,RW8⟩ ?_;unfold kp3;clear rn sn rl sl rr sr ro so hB sB;rintro V4 ⟨hB,rl,rr,ro,ru⟩;have sl:=RFz2 rl;have sr:=RF2 rr;have so:=RFz2 ro;have su:=RFz2 ru;refine wp_region_items 7 [.val (.agg #[.string (S x.num),.string (S (x.den:Int))]),.val (.agg #[.string (S r.num),.string (S (r.den:Int))]),.val (.agg #[.string (S r.num),.string (S (r.den:Int))]),.val (.agg #[.string (S d.num),.string (S (d.den:Int))]),.val (.agg #[.string (S d.num),.string (S (d.den:Int))]),.val (.agg #[.string (S g.num),.string (S (g.den:Int))]),.val (.agg #[.string (S y.num),.string (S (y.den:Int))])] (by kernel_rfl) (by kernel_rfl) trivial (allItems.cons (qi1 fun X h=>RFz2 (Row.below rl h)) (allItems.cons (qi1 fun X h=>RF2 (Row.below rr h)) (allItems.cons qi0 (allItems.cons (qi1 fun X h=>RFz2 (Row.below ru h)) (allItems.cons qi0 (allItems.cons (qi2 fun X h=>MS X (he.below (hB.trans (h.mono hB.size)))) (allItems.cons (qi2 fun X h=>MA X (he.below (hB.trans (h.mono hB.size)))) trivial))))))) ?_;rintro W h1;have stp:=St4 hB h1 rl rr ro ru;clear hB h1 rl sl rr sr ro so ru su;obtain ⟨hB,rl,rr,ro,ru⟩:=stp;have sl:=RFz2 rl;have sr:=RF2 rr;have so:=RFz2 ro;have su:=RFz2 ru;simp only [setItems,List.setIfInBounds_toArray,List.set_cons_succ,List.set_cons_zero,List.take_succ_cons,List.take_zero,List.drop_succ_cons,List.drop_zero];go_upto_region 3 with fail;have hG:w.grownBy W (some bl):=grown_of_below _ hB;refine wp_cut (fun X=>w.grownBy X (some bl)∧w.heap.size≤(w.heap.size+1)∧Row X bl (oN y)∧Row X (w.heap.size+1) oR0∧Row X W3.heap.size (oR d)) ⟨grown_own (grown_own hG),by omega,RW8,RW8,RW8⟩ ?_
 clear sl sr so su hB rl ro ru hG rr;rintro V9 ⟨hG,hPO,rl,ro,ru⟩;have sl:=RFz2 rl;have so:=RFz2 ro;have su:=RFz2 ru;go_wp2_with fail;refine post_cut (fun X=>w.grownBy X (some bl)∧Row X bl (oN y)∧Row X (w.heap.size+1) (oR d)) ⟨grown_new (grown_new hG hPO) hPO,RW8,RW8⟩ ?_;clear sl so su hG rl ro ru;rintro V10 ⟨hG,rl,ro⟩;have so:=RFz2 ro;refine bodyPost_ret (v := .agg #[.string (S d.num),.string (S (d.den:Int))]) ?res rfl ⟨rfl,rl,hG⟩
 case res=>simp [results,Tryz.results62, go_sem,so]
theorem around1 {p:Nat} {a:Frm} (h:RndF p a) (hlen:a.t.length≤100000) (pa:Option Addr) (ca:Nat) (bn ba:Nat) (w:World) (rn:Row w bn (.cells #[.int .i64 (p:Int)] 3)) (ra:Row w ba (oF a.c a.r pa a.t.length ca)) (hpa:TAt 55 w pa a.t) (he:Env w):Calls Tryz.prog 61 #[.pointer (some ⟨bn,0,none⟩),.pointer (some ⟨ba,0,none⟩)] w (afIs (fun g=>rndF (TT p) a=g) w):=by
 have hB:Below w.heap.size w w:=Below.refl _ _;have HPa:=Lib.hid hpa;have FN:=fnum;obtain ⟨n,hn⟩:=form_len a;have hp:=h.pl;have M0:=fun W (H:Env W)=>awhole (n:=0) (by decide) whole0 W H
 have DC:=fun bl W (r1:Row W bn (.cells #[.int .i64 (p:Int)] 3)) (r2:Row W bl (oN (0:Rat))) (hne:bn≠bl) (H:Env W)=>adown1 (h.dig.c) hp h.sub0 h.add0 bn bl W r1 r2 hne H
 have DT:=fun k (hk:k<a.t.length) bl W (r1:Row W bn (.cells #[.int .i64 (p:Int)] 3)) (r2:Row W bl (oN (lostTo (TT p) a.c a.t k))) (hne:bn≠bl) (H:Env W)=>adown1 (h.dig.t _ (trD_mem hk)) hp (h.sub k hk) (h.add k hk) bn bl W r1 r2 hne H
 have MA:=fun W (H:Env W)=>nadd h.last W H
 have MU:=fun W (H:Env W)=>qup (lostTo (TT p) a.c a.t a.t.length+a.r) p h.up hp (by omega) W H
 have MM:=fun W=>amustR (S (uq (lostTo (TT p) a.c a.t a.t.length+a.r) (TT p)).num) (S ((uq (lostTo (TT p) a.c a.t a.t.length+a.r) (TT p)).den:Int)) W
 unfold afIs rndF;rw [hn] at MA MU MM hlen ra;unfold DownRes at DC DT;unfold QIs at MA M0;unfold QOk at MU;generalize hup:uq (lostTo (TT p) a.c a.t n+a.r) (TT p)=up at *;have hL0:lostTo (TT p) a.c a.t 0=0+(a.c - dn a.c (TT p)):=rfl;have HL0:=Lib.hid hL0;have hLs:∀ k,lostTo (TT p) a.c a.t (k+1)=lostTo (TT p) a.c a.t k+((trD a.t k).c - dn (trD a.t k).c (TT p)):=fun _=>rfl
 have HLS:=Lib.hid hLs;rw [← hL0] at DC;generalize hT:TT p=T at *;have HUP:=Lib.hid hup;have hol:∀ k,(rndT T (a.t.take k)).length≤100000:=fun k=>Nat.le_trans (rndT_len T _) (by rw [List.length_take];omega)
 generalize lostTo T a.c a.t=L at *;generalize hlr:L n+a.r=lr at *;have HLR:=Lib.hid hlr;generalize dn a.c T=dc at *;unfold Q at *;have hnI:(n:Int)≤100000:=by omega
 have HN:=Lib.hid hn;obtain ⟨z,hz⟩:∃ z:Rat,z=0:=⟨_,rfl⟩
 rw [← hz] at M0 DC;have HZ:=Lib.hid hz;clear hz hpa h hn hup hL0 hLs hT hp hlr;have sn:=RF1 rn;have sa:=RF5 ra;go_enter Tryz.func61, Tryz.ntmps61;have hbn:=rn.1;have hba:=ra.1;go_wp2_with fail;have dn_o:bn<w.heap.size:=by omega
 have da_o:ba<w.heap.size:=by omega
 have d0_o:w.heap.size≤w.heap.size:=by have:=hB.size;omega
 have sB:=hB.size;refine world_cut (kp1 hB rn fun X=>Row X ba (oF a.c a.r pa n ca)∧Row X w.heap.size oF0) ⟨BW,RW8,RW8,RW8⟩ ?_;unfold kp1;clear rn sn ra sa hB sB;rintro V1 ⟨hB,rn,ra,ro⟩;have sn:=RF1 rn;have sa:=RF5 ra;have so:=RFz5 ro;refine (M0 _ (he.below hB)).mono ?_;rintro e W2 ⟨rfl,h1⟩;have stp:=St3 hB h1 rn ra ro;clear hB h1 rn sn ra sa ro so;obtain ⟨hB,rn,ra,ro⟩:=stp;have sn:=RF1 rn;have sa:=RF5 ra;have so:=RFz5 ro;go_wp2_with fail;have dn_l:bn<W2.heap.size:=by omega
 have da_l:ba<W2.heap.size:=by omega
 have do_l:w.heap.size<W2.heap.size:=by omega
 have d0_l:w.heap.size≤W2.heap.size:=by have:=hB.size;omega
 have sB:=hB.size;refine world_cut (kp3 hB rn ra ro fun X=>Row X W2.heap.size (oN z)) ⟨BW,RW8,RW8,RW8,RW8⟩ ?_;unfold kp3;clear rn sn ra sa ro so hB sB;rintro V3 ⟨hB,rn,ra,ro,rl⟩;have sn:=RF1 rn;have sa:=RF5 ra;have so:=RFz5 ro;have sl:=RFz2 rl;have sl:=rl.1;have sn_n:=rn.1;have sn_a:=ra.1;have sn_o:=ro.1;refine (DC W2.heap.size _ rn rl (by omega) (he.below hB)).mono ?_;clear sn sa so sl;rintro e W9 ⟨rfl,rl2,hg⟩;replace rn:=Row.grown rn hg (by omega);replace ra:=Row.grown ra hg (by omega);replace ro:=Row.grown ro hg (by omega);replace hB:=Below.grown hB hg (by have:=hB.size;omega) (fun k hk=>by simp at hk;omega);clear rl hg sl sn_n sn_a sn_o;have rl:=rl2;clear rl2;have sn:=RF1 rn;have sa:=RF5 ra;have so:=RFz5 ro;have sl:=RFz2 rl;go_upto_region 4 with fail;have dn_u:bn<W9.heap.size:=by omega
 have da_u:ba<W9.heap.size:=by omega
 have do_u:w.heap.size<W9.heap.size:=by omega
 have dl_u:W2.heap.size<W9.heap.size:=by omega
 have d0_u:w.heap.size≤W9.heap.size:=by have:=hB.size;omega
 have sB:=hB.size;refine wp_cut (kp3 hB rn ra ro fun X=>Row X W2.heap.size (oN (L 0))∧Row X W9.heap.size (.cells #[.string (S dc.num),.string (S (dc.den:Int)),.slice none 0 0,.string ⟨#[]⟩,.string ⟨#[]⟩] 30)) ⟨BW,RW8,RW8,RW8,RW8,RW8⟩ ?_;unfold kp3;clear rn sn ra sa ro so rl sl hB sB;rintro V4 ⟨hB,rn,ra,ro,rl,ru⟩;have sn:=RF1 rn;have sa:=RF5 ra;have so:=RFz5 ro;have sl:=RFz2 rl;have su:=RFz5 ru;go_wp2_with fail;obtain ⟨n0,hn0e⟩:∃ n0,n0=V4.heap.size:=⟨_,rfl⟩
 have hb_n:bn<n0:=by have:=rn.1;omega
 have hb_a:ba<n0:=by have:=ra.1;omega
 have hb_o:w.heap.size<n0:=by have:=ro.1;omega
 have hb_l:W2.heap.size<n0:=by have:=rl.1;omega
 have hb_u:W9.heap.size<n0:=by have:=ru.1;omega
 have hn0:n0≤V4.heap.size:=by omega
 have hwn:w.heap.size≤n0:=by have:=hB.size;omega
 clear hn0e sn sa so sl su;go_loopw [18] (fun v18 wr=>∃ (i:Nat) (po:Option Addr) (co:Nat),v18 = .int .i64 (i:Int)∧i≤n∧OT wr n0 po co (rndT T (a.t.take i))∧n0≤wr.heap.size∧Below w.heap.size w wr∧Row wr bn (.cells #[.int .i64 (p:Int)] 3)∧Row wr ba (oF a.c a.r pa n ca)∧Row wr w.heap.size oF0∧Row wr W2.heap.size (oN (L i))∧Row wr W9.heap.size (.cells #[.string (S dc.num),.string (S (dc.den:Int)),.slice po (rndT T (a.t.take i)).length co,.string ⟨#[]⟩,.string ⟨#[]⟩] 30)) (fun v18 _=>(n - RowKit.intOf v18).toNat)
 case atStart=>exact ⟨0,none,0,rfl,by omega,OT.nil _ _,hn0,hB,rn,ra,ro,rl,ru⟩
 case round =>
  clear hB rn ra ro rl ru hn0;obtain ⟨i,po,co,rfl,hin,hown,hn0,hB,rn,ra,ro,rl,ru⟩:=hrel;have sn:=RF1 rn;have sa:=RF5 ra;have so:=RFz5 ro;have sl:=RFz2 rl;have su:=RFz5 ru;rcases Nat.lt_or_ge i n with hlt | hge
  ·have hlt':i<a.t.length:=by rw [HN.out];exact hlt
   have hlI:(i:Int)<(n:Int):=by omega
   have DT:=DT i hlt';have e0:=@rndT_zero T a.t i hlt';have e1:=@rndT_some T a.t i hlt';have hoi:(rndT T (a.t.take i)).length≤100000:=hol i;have hls:=HLS.out i;rw [← hls] at DT;obtain ⟨t,ht⟩:∃ t,t=trD a.t i:=⟨_,rfl⟩
   rw [← ht] at DT e0 e1;have E0:=Lib.hid e0;have E1:=Lib.hid e1;clear e0 e1 hls;have hlt2:=hlt';obtain ⟨g,gcur,rfl,rg,g0,g1,g2⟩:=TAt.at (UAt.below HPa.out hB) hlt2;rw [← ht] at g0 g1 g2;clear ht;have Fg:∀ X,Row X g (.cells gcur 55)→(g<X.heap.size∧X.cell? ⟨g,i * 3,none⟩=some (.int .i64 (t.s:Int))∧X.cell? ⟨g,i * 3+1,none⟩=some (.string (S t.c.num))∧X.cell? ⟨g,i * 3+2,none⟩=some (.string (S (t.c.den:Int)))):=fun X h=>⟨h.1,Row.cell_at h _ g0,Row.cell_at h _ g1,Row.cell_at h _ g2⟩
   have sg:=Fg _ rg;generalize hdd:dn t.c T=d at *;have HDD:=Lib.hid hdd;clear hdd hlt2;have hot:∀ j,(Value.slice po (rndT T (a.t.take i)).length co).ownBlock=some j→j<wr.heap.size:=fun j hj=>(World.ownsRow.lt hown j hj).2
   go_wp2_with fail;have dn_t:bn<wr.heap.size:=by omega
   have da_t:ba<wr.heap.size:=by omega
   have do_t:w.heap.size<wr.heap.size:=by omega
   have dl_t:W2.heap.size<wr.heap.size:=by omega
   have du_t:W9.heap.size<wr.heap.size:=by omega
   have dg_t:g<wr.heap.size:=by omega
   have d0_t:w.heap.size≤wr.heap.size:=by have:=hB.size;omega
   have sB:=hB.size;refine world_cut (fun X=>Below w.heap.size w X∧Row X bn (.cells #[.int .i64 (p:Int)] 3)∧Row X ba (oF a.c a.r (some ⟨g,0,none⟩) n ca)∧Row X w.heap.size oF0∧Row X W2.heap.size (oN (L i))∧Row X W9.heap.size (.cells #[.string (S dc.num),.string (S (dc.den:Int)),.slice po (rndT T (a.t.take i)).length co,.string ⟨#[]⟩,.string ⟨#[]⟩] 30)∧Row X g (.cells gcur 55)∧Row X wr.heap.size (oT (t.s:Int) t.c)∧OT X n0 po co (rndT T (a.t.take i))∧n0≤X.heap.size) ⟨BW,RW8,RW8,RW8,RW8,RW8,RW8,RW8,OW,(by first | omega | (simp;omega))⟩ ?_;clear rn sn ra sa ro so rl sl ru su rg sg hB sB hown hn0;rintro V5 ⟨hB,rn,ra,ro,rl,ru,rg,rt,hown,hn0⟩;have sn:=RF1 rn;have sa:=RF5 ra;have so:=RFz5 ro;have sl:=RFz2 rl;have su:=RFz5 ru;have sg:=Fg _ rg;have st:=RFz3 rt;clear rg sg Fg;have sl:=rl.1;have sn_n:=rn.1;have sn_a:=ra.1;have sn_o:=ro.1;have sn_u:=ru.1;have sn_t:=rt.1;refine (DT W2.heap.size _ rn rl (by omega) (he.below hB)).mono ?_;clear sn sa so sl su st;rintro e Wc ⟨rfl,rl2,hg⟩;replace rn:=Row.grown rn hg (by omega);replace ra:=Row.grown ra hg (by omega);replace ro:=Row.grown ro hg (by omega);replace ru:=Row.grown ru hg (by omega);replace rt:=Row.grown rt hg (by omega);replace hB:=Below.grown hB hg (by have:=hB.size;omega) (fun k hk=>by simp at hk;omega);replace hown:=own_grown hown hg (by omega);replace hn0:=Nat.le_trans hn0 hg.size;clear rl hg sl sn_n sn_a sn_o sn_u sn_t;have rl:=rl2;clear rl2;have sn:=RF1 rn;have sa:=RF5 ra;have so:=RFz5 ro
   have sl:=RFz2 rl;have su:=RFz5 ru;have st:=RFz3 rt;go_upto_region 8 with fail;have rt9:=Row.set3bc (u1 := .string (S d.num)) (u2 := .string (S (d.den:Int))) rt;have hown9:=own_set3r (u1 := .string (S d.num)) (u2 := .string (S (d.den:Int))) hown hot;have sB:=hB.size;refine wp_cut (fun X=>Below w.heap.size w X∧Row X bn (.cells #[.int .i64 (p:Int)] 3)∧Row X ba (oF a.c a.r (some ⟨g,0,none⟩) n ca)∧Row X w.heap.size oF0∧Row X W2.heap.size (oN (L (i+1)))∧Row X W9.heap.size (.cells #[.string (S dc.num),.string (S (dc.den:Int)),.slice po (rndT T (a.t.take i)).length co,.string ⟨#[]⟩,.string ⟨#[]⟩] 30)∧Row X wr.heap.size (oT (t.s:Int) d)∧OT X n0 po co (rndT T (a.t.take i))∧n0≤X.heap.size) ⟨BW,RW8,RW8,RW8,RW8,RW8,RW8,OW,(by first | omega | (simp;omega))⟩ ?_;clear rn sn ra sa ro so rl sl ru su rt st hB sB hown hn0;rintro V6 ⟨hB,rn,ra,ro,rl,ru,rt,hown,hn0⟩;have sn:=RF1 rn;have sa:=RF5 ra;have so:=RFz5 ro;have sl:=RFz2 rl;have su:=RFz5 ru;have st:=RFz3 rt;clear hot;by_cases hd0:d=0
   ·have E:=E0.out hd0;have HE:=Lib.hid E;have hq:((S d.num).toList == (S z.num).toList)=true:=by rw [hd0,HZ.out];simp
    have hq2:((S (d.den:Int)).toList == (S (z.den:Int)).toList)=true:=by rw [hd0,HZ.out];simp
    have hq3:=And.intro hq hq2;have HQ:=Lib.hid hq3;clear E hq hq2 hq3 hd0;go_wp2_with fail;refine wp_region_vals [.pointer (some ⟨wr.heap.size,1,none⟩),.agg #[.string (S d.num),.string (S (d.den:Int))],.agg #[.string (S z.num),.string (S (z.den:Int))],.agg #[.string (S z.num),.string (S (z.den:Int))],.bool false] (by kernel_rfl) (by kernel_rfl) rfl (allVals.cons qv0 (allVals.cons (qv1 fun X h=>RFz3 (Row.below rt h)) (allVals.cons (qv2 fun X h=>M0 X (he.below (hB.trans (h.mono hB.size)))) (allVals.cons (qvf FN) (allVals.cons (qvf HQ.out) trivial))))) ?_;rintro W h1;replace hown:=OT.later hown h1;replace hn0:=le_below hn0 h1;have stp:=St6 hB h1 rn ra ro rl ru rt;clear hB h1 rn sn ra sa ro so rl sl ru su rt st;obtain ⟨hB,rn,ra,ro,rl,ru,rt⟩:=stp;have sn:=RF1 rn;have sa:=RF5 ra;have so:=RFz5 ro;have sl:=RFz2 rl;have su:=RFz5 ru;have st:=RFz3 rt;simp only [setVals,List.setIfInBounds_toArray,List.set_cons_succ,List.set_cons_zero];go_wp2;go_roundw
    case rel=>exact ⟨i+1,po,co,by go_num,by omega,by rw [HE.out];exact OW,(by first | omega | (simp;omega)),BW,RW8,RW8,RW8,RW8,by rw [HE.out];exact RW8⟩
    case measure=>simp [RowKit.intOf];omega
   ·have E:=E1.out hd0;have HE:=Lib.hid E;have hq:((S d.num).toList == (S z.num).toList)=false:=S_ne (fun e=>hd0 (by rw [HZ.out] at e;exact Rat.num_eq_zero.1 e));have HQ:=Lib.hid hq;clear E hq hd0;go_wp2_with fail;refine wp_region_vals [.pointer (some ⟨wr.heap.size,1,none⟩),.agg #[.string (S d.num),.string (S (d.den:Int))],.agg #[.string (S z.num),.string (S (z.den:Int))],.agg #[.string (S z.num),.string (S (z.den:Int))],.bool true] (by kernel_rfl) (by kernel_rfl) rfl (allVals.cons qv0 (allVals.cons (qv1 fun X h=>RFz3 (Row.below rt h)) (allVals.cons (qv2 fun X h=>M0 X (he.below (hB.trans (h.mono hB.size)))) (allVals.cons (qvf FN) (allVals.cons (qvf HQ.out) trivial))))) ?_;rintro W h1;replace hown:=OT.later hown h1;replace hn0:=le_below hn0 h1;have stp:=St6 hB h1 rn ra ro rl ru rt;clear hB h1 rn sn ra sa ro so rl sl ru su rt st;obtain ⟨hB,rn,ra,ro,rl,ru,rt⟩:=stp;have sn:=RF1 rn;have sa:=RF5 ra;have so:=RFz5 ro;have sl:=RFz2 rl;have su:=RFz5 ru;have st:=RFz3 rt;simp only [setVals,List.setIfInBounds_toArray,List.set_cons_succ,List.set_cons_zero];generalize hoo:(rndT T (a.t.take i))=o at *;have HOO:=Lib.hid hoo;clear hoo;go_upto_region 9 with fail;go_wp2_with (at_builtin;refine wpl_append_term rfl (.tmp 33) (.tmp 35) rfl n0 po co o ⟨t.s,d⟩ rfl (World.ownsRow.alloc hown _) _ rfl (row_new _ _) hoi (by simp;omega) ?_;intro p' c' W7 hown' hg';replace rn:=own_row_ne (World.ownsRow.alloc hown _) hg' (Row.alloc rn _) (by omega);replace ra:=own_row_ne (World.ownsRow.alloc hown _) hg' (Row.alloc ra _) (by omega);replace ro:=own_row_ne (World.ownsRow.alloc hown _) hg' (Row.alloc ro _) (by omega);replace rl:=own_row_ne (World.ownsRow.alloc hown _) hg' (Row.alloc rl _) (by omega);replace ru:=own_row_ne (World.ownsRow.alloc hown _) hg' (Row.alloc ru _) (by omega);replace hB:=Below.grown (hB.alloc hB.size _) hg' (by simp;have:=hB.size;omega) (fun k hk=>by have:=(World.ownsRow.lt hown k hk).1;omega);have hn7:n0≤W7.heap.size:=Nat.le_trans (by simp;omega) hg'.size;clear hg' hn0 hown;have su:=RFz5 ru)
    have hown:=hown';clear hown';go_wp2;go_roundw
    case rel=>exact ⟨i+1,p',c',by go_num,by omega,by rw [HE.out];exact own_other hown ru form_ne 2 _,(by simp;omega),BW,RW8,RW8,RW8,RW8,by rw [HE.out];simp only [List.length_append,List.length_cons,List.length_nil,Nat.zero_add];exact RW8⟩
    case measure=>simp [RowKit.intOf];omega
  ·obtain rfl:n=i:=by omega
   have hall:a.t.take n=a.t:=by rw [← HN.out];exact List.take_length
   clear sn sa so sl su;rw [hall] at hown ru;clear hall DT DC;have sn:=RF1 rn;have sa:=RF5 ra;have so:=RFz5 ro;have sl:=RFz2 rl;have su:=RFz5 ru;go_wp2_with fail;refine wp_region_items 12 [.val (.agg #[.string (S (L n).num),.string (S ((L n).den:Int))]),.val (.pointer (some ⟨ba,3,none⟩)),.val (.agg #[.string (S a.r.num),.string (S (a.r.den:Int))]),.val (.agg #[.string (S a.r.num),.string (S (a.r.den:Int))]),.val (.agg #[.string (S lr.num),.string (S (lr.den:Int))]),.val (.agg #[.string (S lr.num),.string (S (lr.den:Int))]),.val (.int .i64 (p:Int)),.val (.tuple #[.agg #[.string (S up.num),.string (S (up.den:Int))],.int .i64 0]),.val (.agg #[.string (S up.num),.string (S (up.den:Int))]),.val (.int .i64 0),.val (.agg #[.string (S up.num),.string (S (up.den:Int))]),.val (.pointer (some ⟨W9.heap.size,3,none⟩))] (by kernel_rfl) (by kernel_rfl) trivial (allItems.cons (qi1 fun X h=>RFz2 (Row.below rl h)) (allItems.cons qi0 (allItems.cons (qi1 fun X h=>RF5 (Row.below ra h)) (allItems.cons qi0 (allItems.cons (qi2 fun X h=>MA X (he.below (hB.trans (h.mono hB.size)))) (allItems.cons (qif FN) (allItems.cons (qi1 fun X h=>RF1 (Row.below rn h)) (allItems.cons (qi2 fun X h=>MU X (he.below (hB.trans (h.mono hB.size)))) (allItems.cons qi0 (allItems.cons qi0 (allItems.cons (qi2 fun X h=>MM X) (allItems.cons qi0 trivial)))))))))))) ?_;rintro W h1;replace hown:=OT.later hown h1;have stp:=St5 hB h1 rn ra ro rl ru;clear hB h1 rn sn ra sa ro so rl sl ru su;obtain ⟨hB,rn,ra,ro,rl,ru⟩:=stp;have sn:=RF1 rn
   have sa:=RF5 ra;have so:=RFz5 ro;have sl:=RFz2 rl;have su:=RFz5 ru;simp only [setItems,List.setIfInBounds_toArray,List.set_cons_succ,List.set_cons_zero,List.take_succ_cons,List.take_zero,List.drop_succ_cons,List.drop_zero];go_wp2_with fail;have sB:=hB.size;refine post_cut (fun X=>Below w.heap.size w X∧Row X w.heap.size (.cells #[.string (S dc.num),.string (S (dc.den:Int)),.slice po (rndT T a.t).length co,.string (S up.num),.string (S (up.den:Int))] 30)∧OT X n0 po co (rndT T a.t)) ⟨BW,RW8,OW⟩ ?_;clear rn sn ra sa ro so rl sl ru su hB sB hown;rintro V5 ⟨hB,ro,hown⟩;have so:=RFz5 ro;refine bodyPost_ret (v := .agg #[.string (S dc.num),.string (S (dc.den:Int)),.slice po (rndT T a.t).length co,.string (S up.num),.string (S (up.den:Int))]) ?res rfl ⟨⟨dc,rndT T a.t,up⟩,po,co,(by rw [HN.out,HLR.out,HUP.out]),OT.tat hown,rfl,hB⟩
   case res=>simp [results,Tryz.results61, go_sem,so]
theorem around {p:Nat} {a:Frm} (h:RndF p a) (oa:a.Ok) (pa:Option Addr) (ca:Nat) (w:World) (hpa:TAt 55 w pa a.t) (he:Env w):Calls Tryz.prog 21 #[FV a pa ca,.int .i64 (p:Int)] w (FRes (rndF (TT p) a) w):=by
 have hB:Below w.heap.size w w:=Below.refl _ _;have HPa:=Lib.hid hpa;have da:=h.dig.mono (show 150≤200 by decide);have CF:=fun s W (r:Row W s (oF a.c a.r pa a.t.length ca)) (h1:TAt 55 W pa a.t) (H:Env W)=>fcontains1 115 (enters_of Tryz.func115 (by kernel_rfl) rfl) s a pa ca W r (fun X hX=>afbad oa da pa ca X (UAt.below h1 hX) (H.below hX))
 have CR:=fun bn ba W (rn:Row W bn (.cells #[.int .i64 (p:Int)] 3)) (ra:Row W ba (oF a.c a.r pa a.t.length ca)) (h1:TAt 55 W pa a.t) (H:Env W)=>around1 h (Nat.le_trans oa.few (by decide)) pa ca bn ba W rn ra h1 H
 generalize rndF (TT p) a=G at *;unfold FRes;unfold FV;clear hpa h oa da;go_enter Tryz.func21, Tryz.ntmps21;go_wp2_with fail;have d0_o:w.heap.size≤w.heap.size+1+1:=by have:=hB.size;omega
 have sB:=hB.size;refine world_cut (fun X=>Below w.heap.size w X∧Row X w.heap.size (oF a.c a.r pa a.t.length ca)∧Row X (w.heap.size+1) (.cells #[.int .i64 (p:Int)] 3)∧Row X (w.heap.size+1+1) oF0∧Row X (w.heap.size+1+1+1) (oF a.c a.r pa a.t.length ca)) ⟨BW,RW8,RW8,RW8,RW8⟩ ?_;clear hB sB;rintro V1 ⟨hB,ra,rn,ro,rb3⟩;have sa:=RF5 ra;have sn:=RF1 rn;have so:=RFz5 ro;have sb3:=RF5 rb3;refine (afcompute_ok 61 _ _ _ (fun g=>G=g) _ (enters_of Tryz.func61 (by kernel_rfl) rfl) (fun X h=>CF _ _ (Row.below rb3 h) (UAt.below HPa.out (hB.trans (h.mono hB.size))) (he.below (hB.trans (h.mono hB.size)))) (fun X h=>CR _ _ _ (Row.below rn h) (Row.below ra h) (UAt.below HPa.out (hB.trans (h.mono hB.size))) (he.below (hB.trans (h.mono hB.size))))).mono ?_;rintro e W2 ⟨_,pg,cg,rfl,hT,rfl,h1⟩;have stp:=St4 hB h1 ra rn ro rb3;clear hB h1 ra sa rn sn ro so rb3 sb3;obtain ⟨hB,ra,rn,ro,rb3⟩:=stp;have sa:=RF5 ra;have sn:=RF1 rn;have so:=RFz5 ro;have sb3:=RF5 rb3;unfold FV;go_wp2_with fail;have sB:=hB.size;refine post_cut (fun X=>Below w.heap.size w X∧Row X (w.heap.size+1+1) (oF G.c G.r pg G.t.length cg)∧TAt 55 X pg G.t) ⟨BW,RW8,TW⟩ ?_;clear ra sa rn sn ro so rb3 sb3 hB sB hT;rintro V3 ⟨hB,ro,hT⟩;have so:=RFz5 ro;refine bodyPost_ret (v := .tuple #[.agg #[.string (S G.c.num),.string (S (G.c.den:Int)),.slice pg G.t.length cg,.string (S G.r.num),.string (S (G.r.den:Int))],.int .i64 0]) ?res rfl ⟨pg,cg,hT,rfl,hB⟩
 case res=>simp [results,Tryz.results21, go_sem,so]
end Go.Proofs.YtdikaoahgleffaaGreatDoor
namespace Go.Proofs.YtdikaoahgleffaaGreatDoor
open Go Go.RowKit Go.Lib Go.Shelf
attribute [local go_sem] normalQ
theorem fin_ok {U:Frm} {VS:List Trm} {t:Rat} (oU:U.Ok) (dU:FDig 200 U) (hU:AtF U VS) (hv:ValsOk VS) (al:AllIn VS U.t) (ft:Fit VS U t) (dt:QDig 200 t):(∀ (W:World) (p:Option Addr) (c:Nat) (q:Option Addr) (d:Nat),TAt 55 W p U.t→TAt 55 W q VS→Env W→Calls Tryz.prog 22 #[FV U p c,.slice q VS.length d] W (IvQ (atI U VS).lo (atI U VS).hi W))∧(∀ (W:World),Env W→Calls Tryz.prog 19 #[.agg #[.string (S (atI U VS).lo.num),.string (S ((atI U VS).lo.den:Int)),.string (S (atI U VS).hi.num),.string (S ((atI U VS).hi.den:Int))],Q t] W (BoolOk true W))∧(∀ (W:World) (p:Option Addr) (c:Nat),TAt 55 W p U.t→Env W→Calls Tryz.prog 23 #[FV U p c] W (BoolOk true W)):=by
 refine ⟨fun W p c q d h1 h2 H=>(aat hU hv oU dU p c q d W h1 h2 H).mono fun e w' h=>h,fun W H => ?_,fun W p c h H=>avalid_ok oU dU p c W h H⟩;have:=econtains (atI U VS) t (at_idig hU) dt W H;rw [show decide ((atI U VS).lo≤t∧t≤(atI U VS).hi)=true from decide_eq_true ((at_can oU.src hv.src al t).2 ft)] at this;exact this
def Six (l:List Trm):Prop:=∀ p,p ∈ l→1≤p.s∧p.s≤6
theorem six_lin {p q:Rat} {a b:List Trm} (sa:SrcOk a) (sb:SrcOk b) (ha:Six a) (hb:Six b):Six (lin p q a b):=fun t ht =>
 ⟨((lin_src sa sb).src t ht).1,lin_six sa sb (fun p hp=>(ha p hp).2) (fun p hp=>(hb p hp).2) t ht⟩
theorem six_nil:Six []:=fun p hp=>by cases hp
theorem six_rnd {T:Int} {l:List Trm} (h:Six l):Six (rndT T l):=fun p hp=>by
 obtain ⟨_,x,hx,rfl⟩:=rndT_mem hp;exact h x hx
theorem At8F.made {f:Frm} {vs:List Trm} (gf:FGr 4 80 f) (gv:∀ p,p ∈ vs→Gr 8 8 p.c) (lf:f.t.length≤5):At8F 9 f vs :=
 ⟨by decide,fun k hk=>(gf.t _ (trD_mem hk)).dig (by decide) (by decide) (by decide),fun k hk=>(gv _ (trD_mem hk)).dig (by decide) (by decide) (by decide),fun k hk=>((midTo_gr gf.c gf.t gv k hk).mono (show _≤3840 by have:(k+1) * (80 * 8)≤6 * (80 * 8):=Nat.mul_le_mul_right _ (by omega);omega)).dig (by decide) (by decide) (by decide),gf.r.dig (by decide) (by decide) (by decide)⟩
theorem at9 {f:Frm} {vs:List Trm} (gf:FGr 4 80 f) (gv:∀ p,p ∈ vs→Gr 8 8 p.c) (lf:f.t.length≤5) (al:AllIn vs f.t):IDig 9 (atI f vs):=by
 have g:=(midTo_gr gf.c gf.t gv _ (Nat.le_refl _)).mono (show _≤3840 by have:(f.t.length+1) * (80 * 8)≤6 * (80 * 8):=Nat.mul_le_mul_right _ (by omega);omega);have r0:Gr (4 * 8) (80 * 8) (0+f.r):=by rw [Rat.zero_add];exact gf.r.fine 8
 rw [At8F.at (j:=9) al];exact ⟨((g.sub r0).mono (show _≤10000 by decide)).dig (by decide) (by decide) (by decide),((g.add r0).mono (show _≤10000 by decide)).dig (by decide) (by decide) (by decide)⟩
theorem invF_ok {a:Frm} (oa:a.Ok) (h0:0<(rangeI a).lo):(invF a).Ok:=by
 have le:(rangeI a).lo≤(rangeI a).hi:=by
  have:=rad_nonneg oa.rest;show a.c - rad a≤a.c+rad a;grind
 obtain ⟨i1,i2⟩:=inv_line h0 (show (rangeI a).lo≤(rangeI a).lo by grind) le;refine ⟨Nat.le_trans (lin_ok oa.src SrcOk.nil).len (by show a.t.length+0≤64;have:=oa.few;omega),lin_src oa.src SrcOk.nil,lin_nz oa.src SrcOk.nil,?_⟩;have h1:=Rat.mul_nonneg (absQ_nonneg (-1 / ((rangeI a).lo * (rangeI a).hi))) oa.rest;show 0≤absQ _ * a.r+absQ 0 * 0+(1 / (rangeI a).lo+1 / (rangeI a).hi - 4 / ((rangeI a).lo+(rangeI a).hi)) / 2;have h2:=Rat.le_trans i1 i2;grind
theorem neg_inv (v:Rat) : -1 * (1 / (-1 * v))=1 / v:=by
 have e : -1 * v = -v:=by grind
 rw [e,Rat.div_def,Rat.div_def];by_cases h:v=0
 ·subst h;decide +kernel
 ·have h1:=Rat.mul_inv_cancel v h;have h2:=Rat.mul_inv_cancel (-v) (by grind);generalize v⁻¹=a at *;generalize (-v)⁻¹=b at *;grind
theorem affineContains {a0 a1:Addr} {c0 r0 c1 r1 fa fb fc fd:Int} {x y z:Nat→Int} (hc0:IsInt c0) (hr0:IsInt r0) (hx:∀ i,i<6→IsInt (x i)) (hc1:IsInt c1) (hr1:IsInt r1) (hy:∀ i,i<6→IsInt (y i)) (hz:∀ i,i<6→IsInt (z i)) (hfa:IsInt fa) (hfb:IsInt fb) (hfc:IsInt fc) (hfd:IsInt fd) (w:World) (he:EnvA a0 a1 w) :
  Calls Tryz.prog 3 #[.agg #[.int .i64 c0,.int .i64 r0,.int .i64 (x 0),.int .i64 (x 1),.int .i64 (x 2),.int .i64 (x 3),.int .i64 (x 4),.int .i64 (x 5)],.agg #[.int .i64 c1,.int .i64 r1,.int .i64 (y 0),.int .i64 (y 1),.int .i64 (y 2),.int .i64 (y 3),.int .i64 (y 4),.int .i64 (y 5)],.agg #[.int .i64 (z 0),.int .i64 (z 1),.int .i64 (z 2),.int .i64 (z 3),.int .i64 (z 4),.int .i64 (z 5)],.int .i64 fa,.int .i64 fb,.int .i64 fc,.int .i64 fd] w (BoolOk true w):=by
 have hk0:=pk_nonneg fc (n:=81) (by decide);have hk1:=pk_lt fc (n:=81) (by decide);have PK:=fun W=>pickL8 fc 81 hfc (by decide) W
 generalize pk fc 81=k0 at *;have hw:IntKind.i64.wrap (k0 - 40)=k0 - 40:=by rw [IntKind.wrap_i64];omega
 have RB:=fun W=>lratio8 (n:=k0 - 40) (d:=4) ⟨by omega,by omega⟩ (by decide) (by decide) W
 have gb_:Gr 4 40 (Rat.divInt (k0 - 40) 4):=Gr.ofInt (by decide) (by omega);generalize Rat.divInt (k0 - 40) 4=by_ at *;have hp0:=pk_nonneg fd (n:=31) (by decide);have hp1:=pk_lt fd (n:=31) (by decide);have PP:=fun W=>pickL8 fd 31 hfd (by decide) W
 generalize pk fd 31=pz at *;obtain ⟨p,rfl⟩:∃ p:Nat,pz=(p:Int):=⟨pz.toNat,by omega⟩
 have hp:p≤30:=by omega
 have MA:=fun W=>lmade8 hc0 hr0 x hx W
 have MB:=fun W=>lmade8 hc1 hr1 y hy W
 have oa:=mForm_ok c0 r0 x;have ob:=mForm_ok c1 r1 y;have ga:=mForm_gr c0 r0 x;have gb:=mForm_gr c1 r1 y;have la:=mForm_len c0 r0 x;have lb:=mForm_len c1 r1 y;have sa:Six (mForm c0 r0 x).t:=mForm_six c0 r0 x;have sb:Six (mForm c1 r1 y).t:=mForm_six c1 r1 y;have VA:∀ W,Calls Tryz.prog 6 #[.agg #[.int .i64 (z 0),.int .i64 (z 1),.int .i64 (z 2),.int .i64 (z 3),.int .i64 (z 4),.int .i64 (z 5)]] W (ListCap 55 (vTo z 6) W):=fun W=>r8values z hz W
 have hv:ValsOk (vTo z 6):=vTo_vals z (Nat.le_refl _);have gv:=vTo_gr z 6;have al6:∀ {l:List Trm},Six l→AllIn (vTo z 6) l:=fun h=>vTo_all h
 generalize mForm c0 r0 x=A at *;generalize mForm c1 r1 y=B at *;generalize vTo z 6=VS at *;have da:FDig 9 A:=ga.dig (by decide) (by decide) (by decide);have db:FDig 9 B:=gb.dig (by decide) (by decide) (by decide);have gk:FGr 4 80 (constF 0):=⟨(Gr.zero 4).mono (by decide),fun p hp=>(by cases hp),(Gr.zero 4).mono (by decide)⟩
 have ok0:=const_ok 0;have rF:RangeF A:=RangeF.made ga la;have d1:QDig 9 1:=one_dig;have dm:QDig 9 (-1):=mone_dig;have d0:QDig 9 0:=qd (by decide +kernel);have dby:QDig 9 by_:=gb_.dig (by decide) (by decide) (by decide);have dk:FDig 9 (constF 0):=gk.dig (by decide) (by decide) (by decide);have g1:Gr 1 1 (-1):=⟨-1,by decide +kernel,by decide⟩
 have RZ:=fun W (H:Env W)=>econtains (rangeI A) 0 (range_idig rF) (d0.mono (by decide)) W H
 have FIN:∀ {d m:Nat} {U:Frm} {t:Rat},FGr d m U→U.t.length≤10→0<d→d<10 ^ 90→m<10 ^ 90→U.Ok→Six U.t→Fit VS U t→QDig 200 t→(∀ (W:World) (p:Option Addr) (c:Nat) (q:Option Addr) (d:Nat),TAt 55 W p U.t→TAt 55 W q VS→Env W→Calls Tryz.prog 22 #[FV U p c,.slice q VS.length d] W (IvQ (atI U VS).lo (atI U VS).hi W))∧(∀ (W:World),Env W→Calls Tryz.prog 19 #[.agg #[.string (S (atI U VS).lo.num),.string (S ((atI U VS).lo.den:Int)),.string (S (atI U VS).hi.num),.string (S ((atI U VS).hi.den:Int))],Q t] W (BoolOk true W))∧(∀ (W:World) (p:Option Addr) (c:Nat),TAt 55 W p U.t→Env W→Calls Tryz.prog 23 #[FV U p c] W (BoolOk true W)):=fun {d m U t} gU lU hd h1 h2 oU sU ft dt=>by
  refine fin_ok oU ((gU.dig (k:=90) hd h1 h2).mono (by decide)) (atF_of gU gv (n:=11) (by omega) hd ?_ ?_) hv (al6 sU) ft dt
  ·exact Nat.lt_of_lt_of_le (Nat.mul_lt_mul_of_pos_right h1 (by decide)) (by decide +kernel)
  ·have:11 * (m * 8)=m * 88:=by omega
   rw [this];exact Nat.lt_of_lt_of_le (Nat.mul_lt_mul_of_pos_right h2 (by decide)) (by decide +kernel)
 have lc:∀ {p q:Rat} {a b:List Trm},SrcOk a→SrcOk b→a.length+b.length≤10→(lin p q a b).length≤10:=fun h1 h2 h3=>Nat.le_trans (lin_ok h1 h2).len h3
 refine contains0 (A:=A) (B:=B) (U0:=combF 1 1 A B) (U1:=combF 1 (-1) A B) (U2:=combF by_ 0 A (constF 0)) (U3:=mulF A B) (U5:=rndF (TT p) A) (VS:=VS) (PV:=fun r=>QDig 32 r∧(atI A VS).Has r) (PU:=fun r=>QDig 32 r∧(atI B VS).Has r) (by_:=by_) (r3:=(rangeI A).lo) (r4:=(rangeI A).hi) (z0:=0) (one:=1) (k0:=k0) (k1:=k0 - 40) (pp:=(p:Int)) (bz:=decide ((rangeI A).lo≤0∧0≤(rangeI A).hi))
  hw (rat8 (by decide +kernel)) (rat8 (by decide +kernel)) (fun W H=>sane8 W H) MA MB VA
  (fun W p c q d h1 h2=>lcan (At8F.made ga gv la) (al6 sa) hv oa (da.mono (by decide)) (show 9≤40 by decide) (at9 ga gv la (al6 sa)) fa hfa p c q d W h1 h2)
  (fun W p c q d h1 h2=>lcan (At8F.made gb gv lb) (al6 sb) hv ob (db.mono (by decide)) (show 9≤40 by decide) (at9 gb gv lb (al6 sb)) fb hfb p c q d W h1 h2)
  PK RB PP (fun W p c h H=>(arange oa rF (by omega) p c W h H).mono fun e w' h=>h) RZ ?_ w he
 rintro v u ⟨dv,hv'⟩ ⟨du,hu'⟩;have fv:Fit VS A v:=(at_can oa.src hv.src (al6 sa) v).1 hv';have fu:Fit VS B u:=(at_can ob.src hv.src (al6 sb) u).1 hu';clear hv' hu';have H4:∃ (t l h:Rat) (U:Frm),decide ((rangeI A).lo≤0∧0≤(rangeI A).hi)=true∧(∀ (W:World) (p:Option Addr) (c:Nat),TAt 55 W p A.t→EnvA a0 a1 W→Calls Tryz.prog 18 #[FV A p c] W (afErr W))∨decide ((rangeI A).lo≤0∧0≤(rangeI A).hi)=false∧(∀ (W:World) (p:Option Addr) (c:Nat),TAt 55 W p A.t→Env W→Calls Tryz.prog 18 #[FV A p c] W (FRes U W))∧(∀ (W:World),Env W→Calls Tryz.prog 20 #[Q 1,Q v] W (QOk t W))∧(∀ (W:World) (p:Option Addr) (c:Nat) (q:Option Addr) (d:Nat),TAt 55 W p U.t→TAt 55 W q VS→Env W→Calls Tryz.prog 22 #[FV U p c,.slice q VS.length d] W (IvQ l h W))∧(∀ (W:World),Env W→Calls Tryz.prog 19 #[.agg #[.string (S l.num),.string (S (l.den:Int)),.string (S h.num),.string (S (h.den:Int))],Q t] W (BoolOk true W))∧(∀ (W:World) (p:Option Addr) (c:Nat),TAt 55 W p U.t→Env W→Calls Tryz.prog 23 #[FV U p c] W (BoolOk true W)):=by
  obtain ⟨v1,v2⟩:=Fit.range oa.src hv (al6 sa) fv;by_cases hz0:(rangeI A).lo≤0∧0≤(rangeI A).hi
  ·exact ⟨0,0,0,A,.inl ⟨decide_eq_true hz0,fun W p c h H=>ainv_err rF oa hz0.1 hz0.2 p c W h H⟩⟩
  ·have hne:v≠0:=fun e=>hz0 (by rw [e] at v1 v2;exact ⟨v1,v2⟩)
   have WD:=fun W (H:Env W)=>qdiv d1 dv (by decide) hne W H
   have dq:QDig 200 (1 / v):=(DF.of d1 dv (by decide) hne).dig;by_cases hpos:0<(rangeI A).lo
   ·obtain ⟨hI,D,D0,D1,gI⟩:=inv_all ga oa la hpos;obtain ⟨f1,f2,f3⟩:=FIN gI (lc oa.src SrcOk.nil (by show A.t.length+0≤10;omega)) D0 (Nat.lt_of_le_of_lt D1 (by decide +kernel)) (by decide +kernel) (invF_ok oa hpos) (six_lin oa.src SrcOk.nil sa six_nil) (Fit.inv hv oa.src (al6 sa) hpos fv) dq;exact ⟨1 / v,_,_,invF A,.inr ⟨decide_eq_false hz0,fun W p c h H=>ainverse hI oa p c W h H,WD,f1,f2,f3⟩⟩
   ·have hn:(rangeI A).hi<0:=by
     have:=rad_nonneg oa.rest;have h1:(rangeI A).lo≤0:=by grind
     by_cases h2:0≤(rangeI A).hi
     ·exact absurd ⟨h1,h2⟩ hz0
     ·grind
    have on:=neg_ok oa;have gn:=neg_gr oa ga;have ln:(negF A).t.length≤5:=by rw [neg_len oa];exact la
    have sn:Six (negF A).t:=six_lin oa.src SrcOk.nil sa six_nil;have hpn:0<(rangeI (negF A)).lo:=by rw [neg_lo oa];grind
    obtain ⟨hI,D,D0,D1,gI⟩:=inv_all gn on ln hpn;have oi:=invF_ok on hpn;have li:(invF (negF A)).t.length≤5:=Nat.le_trans (lin_ok on.src SrcOk.nil).len (by simpa using ln);have si:Six (invF (negF A)).t:=six_lin on.src SrcOk.nil sn six_nil;have di:FDig 13 (invF (negF A)):=gI.dig D0 (Nat.lt_of_le_of_lt D1 (by decide +kernel)) (by decide +kernel);have fn:Fit VS (negF A) (-1 * v):=Fit.scale oa.src fv;have fi:=Fit.inv hv on.src (al6 sn) hpn fn;have fr:Fit VS (negF (invF (negF A))) (1 / v):=by
     have:=Fit.scale (p := -1) oi.src fi;rw [neg_inv] at this;exact this
    have hN:InvNF A:=⟨rF,hn,oa,neg_combF oa da (by decide) (by decide),on,hI,oi,di.mono (by decide),neg_combF oi di (by decide) (by decide)⟩
    obtain ⟨f1,f2,f3⟩:=FIN (neg_gr oi gI) (by rw [neg_len oi];omega) D0 (Nat.lt_of_le_of_lt D1 (by decide +kernel)) (by decide +kernel) (neg_ok oi) (six_lin oi.src SrcOk.nil si six_nil) fr dq;exact ⟨1 / v,_,_,negF (invF (negF A)),.inr ⟨decide_eq_false hz0,fun W p c h H=>ainvn hN p c W h H,WD,f1,f2,f3⟩⟩
 obtain ⟨t4,l4,h4,U4,H4⟩:=H4;have f0:Fit VS (combF 1 1 A B) (v+u):=by
  have:=Fit.comb (p:=1) (q:=1) oa.src ob.src fv fu
  rwa [show 1 * v+1 * u=v+u by grind] at this
 have f1:Fit VS (combF 1 (-1) A B) (v - u):=by
  have:=Fit.comb (p:=1) (q := -1) oa.src ob.src fv fu
  rwa [show 1 * v + -1 * u=v - u by grind] at this
 have f2:Fit VS (combF by_ 0 A (constF 0)) (by_ * v):=Fit.scale oa.src fv;have f3:Fit VS (mulF A B) (v * u):=Fit.mul hv oa.src ob.src (al6 sa) (al6 sb) fv fu;obtain ⟨rR,gR⟩:=RndF.of ga hp la;have f5:Fit VS (rndF (TT p) A) v:=Fit.round (TT_pos p) hv oa.src (al6 sa) fv;have c0:CombF 1 1 A B:=CombF.of d1 d1 da db (by decide) (comb_len oa ob (by omega));have c1:CombF 1 (-1) A B:=CombF.of d1 dm da db (by decide) (comb_len oa ob (by omega));have c2:CombF by_ 0 A (constF 0):=CombF.of dby d0 da dk (by decide) (comb_len oa ok0 (by show A.t.length+0≤64;omega));have da':=da.mono (show 9≤200 by decide);have db':=db.mono (show 9≤200 by decide);have gm:FGr 16 1000000 (mulF A B):=⟨(ga.c.mul gb.c).mono (by decide),fun t ht=>((lin_gr (A.t.length+B.t.length) A.t B.t (Nat.le_refl _) (fun x hx=>gb.c.mul (ga.t x hx)) (fun y hy=>ga.c.mul (gb.t y hy)) t ht)).mono (by decide),(((gb.c.abs.mul ga.r).add (ga.c.abs.mul gb.r)).add ((rad_gr ga (n:=6) (by omega)).mul (rad_gr gb (n:=6) (by omega)))).mono (by decide)⟩
 obtain ⟨x0,x1,x2⟩:=FIN (comb_gr ga gb gr_one gr_one) (lc oa.src ob.src (by omega)) (by decide) (by decide +kernel) (by decide +kernel) (comb_ok oa ob c0.lin.few) (six_lin oa.src ob.src sa sb) f0 ((dv.add du).mono (by decide));obtain ⟨y0,y1,y2⟩:=FIN (comb_gr ga gb gr_one g1) (lc oa.src ob.src (by omega)) (by decide) (by decide +kernel) (by decide +kernel) (comb_ok oa ob c1.lin.few) (six_lin oa.src ob.src sa sb) f1 ((dv.sub du).mono (by decide));obtain ⟨z0,z1,z2⟩:=FIN (comb_gr ga gk gb_ ((Gr.zero 4).mono (Nat.zero_le 40))) (lc oa.src SrcOk.nil (by show A.t.length+0≤10;omega)) (by decide) (by decide +kernel) (by decide +kernel) (comb_ok oa ok0 c2.lin.few) (six_lin oa.src SrcOk.nil sa six_nil) f2 ((dby.mul dv).mono (by decide));obtain ⟨m0,m1,m2⟩:=FIN gm (lc oa.src ob.src (by omega)) (by decide) (by decide +kernel) (by decide +kernel) (mulF_ok oa ob (comb_len oa ob (by omega))) (six_lin oa.src ob.src sa sb) f3 ((dv.mul du).mono (by decide));obtain ⟨n0,n1,n2⟩:=FIN gR (Nat.le_trans (rndT_len _ _) (by omega)) (Nat.pow_pos (by decide)) (Nat.lt_of_le_of_lt (Nat.pow_le_pow_right (by decide) hp) (by decide +kernel)) (by decide +kernel) (rndF_ok (TT_pos p) oa) (six_rnd sa) f5 (dv.mono (by decide));exact ⟨v+u,v - u,by_ * v,v * u,t4,_,_,_,_,_,_,_,_,l4,h4,_,_,U4,
  fun W p c q d h1 h2 H=>aadd c0 oa ob da' db' p c q d W h1 h2 H,fun W H=>qadd dv du (by decide) W H,x0,x1,x2,
  fun W p c q d h1 h2 H=>asub c1 oa ob da' db' p c q d W h1 h2 H,fun W H=>qsub dv du (by decide) W H,y0,y1,y2,
  fun W p c h1 H=>ascale c2 oa da' p c W h1 H,fun W H=>qmul dby dv (by decide) W H,z0,z1,z2,
  fun W p c q d h1 h2 H=>amul (MulF.made ga gb oa ob la lb) oa ob da' db' p c q d W h1 h2 H,fun W H=>qmul dv du (by decide) W H,m0,m1,m2,
  fun W p c h1 H=>around rR oa p c W h1 H,n0,n1,n2,H4⟩
end Go.Proofs.YtdikaoahgleffaaGreatDoor
namespace Go.Proofs.YtdikaoahgleffaaGreatDoor
open Go Go.RowKit Go.Lib Go.ChangeShapes Go.WideShapes
section
variable {H:Type} {enc:TypeId × Value→H} {W:World}
theorem trodLt8 {t:TypeId} {v:Value} {d:DataW H} {ps:List MemPlace} (h:DataW.Trod enc Tryz.prog W 0 (fun _=>true) true t v d ps):∀ x ∈ ps,x.block<W.heap.size:=fun x hx=>by
 obtain ⟨n,h⟩:=h;exact DataW.trod_lt n _ _ _ h x hx
theorem listN6 {α:Type} {l:List α} (h:l.length=6):∃ a b c d e f,l=[a,b,c,d,e,f]:=by
 match l,h with
 | [a,b,c,d,e,f],_=>exact ⟨a,b,c,d,e,f,rfl⟩
theorem trod_six {fuel:Nat} {a b c d e f:Value} {x:DataW H × List MemPlace} (h:DataW.trod enc Tryz.prog W 0 (fun _=>true) true fuel 22 [a,b,c,d,e,f]=some x):∃ g:Nat→Int,[a,b,c,d,e,f]=[.int .i64 (g 0),.int .i64 (g 1),.int .i64 (g 2),.int .i64 (g 3),.int .i64 (g 4),.int .i64 (g 5)]∧∀ i,i<6→IsInt (g i):=by
 obtain ⟨ys,m,_,hx,_,hl,hi⟩:=DataW.trod_array Tryz.underlying22 h;have ce:Tryz.prog.cellsOf 3 = 1:=by kernel_rfl
 rw [ce] at hi;obtain ⟨y0,y1,y2,y3,y4,y5,rfl⟩:=listN6 hl;have h0:DataW.trod enc Tryz.prog W 0 (fun _=>true) true m 3 [a]=some y0:=by simpa using hi 0 (by omega)
 have h1:DataW.trod enc Tryz.prog W 0 (fun _=>true) true m 3 [b]=some y1:=by simpa using hi 1 (by omega)
 have h2:DataW.trod enc Tryz.prog W 0 (fun _=>true) true m 3 [c]=some y2:=by simpa using hi 2 (by omega)
 have h3:DataW.trod enc Tryz.prog W 0 (fun _=>true) true m 3 [d]=some y3:=by simpa using hi 3 (by omega)
 have h4:DataW.trod enc Tryz.prog W 0 (fun _=>true) true m 3 [e]=some y4:=by simpa using hi 4 (by omega)
 have h5:DataW.trod enc Tryz.prog W 0 (fun _=>true) true m 3 [f]=some y5:=by simpa using hi 5 (by omega)
 obtain ⟨x0,e0,f0,g0⟩:=DataW.trod_int Tryz.underlying3 h0;obtain ⟨x1,e1,f1,g1⟩:=DataW.trod_int Tryz.underlying3 h1;obtain ⟨x2,e2,f2,g2⟩:=DataW.trod_int Tryz.underlying3 h2;obtain ⟨x3,e3,f3,g3⟩:=DataW.trod_int Tryz.underlying3 h3;obtain ⟨x4,e4,f4,g4⟩:=DataW.trod_int Tryz.underlying3 h4;obtain ⟨x5,e5,f5,g5⟩:=DataW.trod_int Tryz.underlying3 h5;simp only [List.cons.injEq,and_true] at e0 e1 e2 e3 e4 e5;subst e0 e1 e2 e3 e4 e5;refine ⟨fun i=>[x0,x1,x2,x3,x4,x5].getD i 0,rfl,fun i hi => ?_⟩;rcases (show i=0∨i=1∨i=2∨i=3∨i=4∨i=5 by omega) with rfl | rfl | rfl | rfl | rfl | rfl
 ·exact isInt_wf g0
 ·exact isInt_wf g1
 ·exact isInt_wf g2
 ·exact isInt_wf g3
 ·exact isInt_wf g4
 ·exact isInt_wf g5
theorem trod_numbers {fuel:Nat} {cs:List Value} {x:DataW H × List MemPlace} (h:DataW.trod enc Tryz.prog W 0 (fun _=>true) true fuel 24 cs=some x) :
  ∃ (c r:Int) (g:Nat→Int),cs=[.int .i64 c,.int .i64 r,.int .i64 (g 0),.int .i64 (g 1),.int .i64 (g 2),.int .i64 (g 3),.int .i64 (g 4),.int .i64 (g 5)]∧IsInt c∧IsInt r∧∀ i,i<6→IsInt (g i):=by
 obtain ⟨xs,n,_,_,hl,hlen,hf⟩:=DataW.trod_struct Tryz.underlying24 h;have c8:Tryz.prog.cellsOf 24 = 8:=by kernel_rfl
 have c6:Tryz.prog.cellsOf 22 = 6:=by kernel_rfl
 have c1:Tryz.prog.cellsOf 3 = 1:=by kernel_rfl
 rw [c8] at hl
 match cs,hl with
 | [p,q,a,b,c,d,e,f],_ =>
  have h0:DataW.trod enc Tryz.prog W 0 (fun _=>true) true n 3 (([p,q,a,b,c,d,e,f].drop 0).take (Tryz.prog.cellsOf 3))=xs[0]? := hf 0 _ rfl;have h1:DataW.trod enc Tryz.prog W 0 (fun _=>true) true n 3 (([p,q,a,b,c,d,e,f].drop 1).take (Tryz.prog.cellsOf 3))=xs[1]? := hf 1 _ rfl;have h2:DataW.trod enc Tryz.prog W 0 (fun _=>true) true n 22 (([p,q,a,b,c,d,e,f].drop 2).take (Tryz.prog.cellsOf 22))=xs[2]? := hf 2 _ rfl;rw [c1] at h0 h1;rw [c6] at h2;obtain ⟨y0,e0⟩:∃ y,xs[0]? = some y:=⟨xs[0]'(by rw [hlen];decide),List.getElem?_eq_getElem _⟩
  obtain ⟨y1,e1⟩:∃ y,xs[1]? = some y:=⟨xs[1]'(by rw [hlen];decide),List.getElem?_eq_getElem _⟩
  obtain ⟨y2,e2⟩:∃ y,xs[2]? = some y:=⟨xs[2]'(by rw [hlen];decide),List.getElem?_eq_getElem _⟩
  rw [e0] at h0;rw [e1] at h1;rw [e2] at h2;obtain ⟨z0,ez0,_,hz0⟩:=DataW.trod_int Tryz.underlying3 h0;obtain ⟨z1,ez1,_,hz1⟩:=DataW.trod_int Tryz.underlying3 h1;obtain ⟨g,eg,hg⟩:=trod_six (a:=a) (b:=b) (c:=c) (d:=d) (e:=e) (f:=f) h2;simp at ez0 ez1;exact ⟨z0,z1,g,by rw [ez0,ez1,eg],isInt_wf hz0,isInt_wf hz1,hg⟩
theorem agg_cells8 {v:Value} {cs:List Value} (h:v.cells.toList=cs) (ha:∃ xs,v = .agg xs):v = .agg cs.toArray:=by
 obtain ⟨xs,rfl⟩:=ha;rw [← h];simp [Value.cells]
theorem open_numbers {v:Value} {d:DataW H} {ps:List MemPlace} {base:Nat} (hv:Value.okWide Tryz.prog W .any base 24 v) (h:DataW.Trod enc Tryz.prog W 0 (fun _=>true) true 24 v d ps) :
  ∃ (c r:Int) (g:Nat→Int),v = .agg #[.int .i64 c,.int .i64 r,.int .i64 (g 0),.int .i64 (g 1),.int .i64 (g 2),.int .i64 (g 3),.int .i64 (g 4),.int .i64 (g 5)]∧IsInt c∧IsInt r∧∀ i,i<6→IsInt (g i):=by
 unfold Value.okWide at hv;rw [Tryz.underlying24] at hv;obtain ⟨cs,rfl,_,_⟩:=hv;obtain ⟨fuel,hf⟩:=h;obtain ⟨c,r,g,e,h1,h2,h3⟩:=trod_numbers hf;exact ⟨c,r,g,agg_cells8 e ⟨_,rfl⟩,h1,h2,h3⟩
theorem open_six {v:Value} {d:DataW H} {ps:List MemPlace} {base:Nat} (hv:Value.okWide Tryz.prog W .any base 22 v) (h:DataW.Trod enc Tryz.prog W 0 (fun _=>true) true 22 v d ps) :
  ∃ g:Nat→Int,v = .agg #[.int .i64 (g 0),.int .i64 (g 1),.int .i64 (g 2),.int .i64 (g 3),.int .i64 (g 4),.int .i64 (g 5)]∧∀ i,i<6→IsInt (g i):=by
 have arrKey6:Go.WideMaps.ArrKey Tryz.prog 22 3 6:=⟨Tryz.underlying22, by kernel_rfl,by kernel_rfl,by kernel_rfl⟩
 obtain ⟨cs,rfl,hsz⟩:∃ xs:Array Value,v = .agg xs∧xs.size=6:=Go.WideMaps.okWide_arr arrKey6 hv;obtain ⟨a,b,c,d',e,f,hl⟩:=listN6 (l:=cs.toList) (by simpa using hsz);obtain ⟨fuel,hf⟩:=h;have hc:(Value.agg cs).cells.toList=[a,b,c,d',e,f]:=by rw [← hl];simp [Value.cells]
 rw [hc] at hf;obtain ⟨g,e1,h1⟩:=trod_six hf;refine ⟨g,agg_cells8 (hc.trans e1) ⟨_,rfl⟩,h1⟩
end
end Go.Proofs.YtdikaoahgleffaaGreatDoor
