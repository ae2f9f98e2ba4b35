/-
 Package rational: the multiples of a grid below and above a fraction. Package enclosure: Round, and Sqrt on a grid.
-/
import Derived.Test.YtdikaoahgleffaaGreatDoorWEOps
import Derived.Test.YtdikaoahgleffaaGreatDoorWEnv8
import Derived.Test.YtdikaoahgleffaaGreatDoorWLaw1
import Derived.Test.YtdikaoahgleffaaGreatDoorWQPlain6
import Derived.Test.YtdikaoahgleffaaGreatDoorWQTool
import Derived.Test.YtdikaoahgleffaaGreatDoorWRefO
set_option linter.unusedSimpArgs false
set_option linter.unusedVariables false
set_option maxRecDepth 100000
set_option maxHeartbeats 4000000
namespace Go.Proofs.YtdikaoahgleffaaGreatDoor
open Go Go.RowKit Go.Lib Go.Shelf
theorem val10_zeros':∀ p,val10 (List.replicate p 0)=0
 | 0=>rfl
 | p+1=>by rw [List.replicate_succ];show 0+10 * val10 (List.replicate p 0)=0;rw [val10_zeros' p]
theorem is_tens (p:Nat):Is ⟨(49 :: List.replicate p 48).toArray⟩ (TT p):=by
 have hs:Small10 (List.replicate p 0 ++ [1]):=Small10.append (fun d hd=>by rw [(List.mem_replicate.1 hd).2];decide) (Small10.mk (by decide) small10_nil);have hn:Norm10 (List.replicate p 0 ++ [1]):=⟨hs,by simp⟩
 have h:=tx_itoa false hn;rw [tx_pre false (by simp)] at h;have ht:txt10 (List.replicate p 0 ++ [1])=49 :: List.replicate p 48:=by rw [txt10_snoc];simp [txt10]
 have hv:val10 (List.replicate p 0 ++ [1])=10 ^ p:=by rw [val10_snoc,val10_zeros',List.length_replicate,Nat.zero_add,Nat.one_mul]
 rw [ht,hv] at h;unfold Is TT;rw [List.toList_toArray];simpa [pre] using h
theorem tens_S (p:Nat):(⟨#[49]⟩:ByteArray) ++ ⟨(Lib.repeatL [48] p).toArray⟩=S (TT p):=by
 rw [← (is_tens p).eq,repeat_zeros];apply ba_ext;simp [ByteArray.data_append]
theorem round_down {j:Nat} (r:Rat) (p:Nat) (hr:QDig j r) (hp:p≤30) (hjp:j+p+1≤200) (w:World) (he:Env w) :
  Calls Tryz.prog 122 #[Q r,.int .i64 (p:Int),.bool false] w (QOk (dn r (TT p)) w):=by
 have i1:Is ⟨#[49]⟩ 1:=is_lit (by decide) (by decide);have f1:Fits 1:=fits_lit (by decide);have d1:decide ((p:Int)<0)=false:=decide_eq_false (by omega);have d2:decide ((30:Int)<(p:Int))=false:=decide_eq_false (by omega);have hq:=hr.mono (show j≤200 by omega);have ia:=is_S r.num;have id_:=is_S (r.den:Int);have it:=is_S (TT p);have fa:Fits r.num:=hq.1;have fd:Fits (r.den:Int):=hq.2;have ft:Fits (TT p):=(TT_dig p).fits (by omega);obtain ⟨n,hn⟩:∃ n,n=r.num * TT p:=⟨_,rfl⟩
 have fn:Fits n:=by rw [hn];exact (TT_mul_dig hr.1).fits (by omega)
 obtain ⟨q,hqe⟩:∃ q,q=n / (r.den:Int):=⟨_,rfl⟩
 obtain ⟨z,hz⟩:∃ z,z=n % (r.den:Int):=⟨_,rfl⟩
 have hD:downI r (TT p)=q:=by unfold downI;rw [hqe,hn]
 have dq:Dig (j+p) q:=by rw [← hD];exact downI_dig hr
 have fq:Fits q:=dq.fits (by omega);have iq:=is_S q;have in_:=is_S n;have d0:=den_pos r;have N1:=Lib.hid hn.symm;have N2:=Lib.hid hqe.symm;have N3:=Lib.hid hz.symm;have E:Rat.divInt q (TT p)=dn r (TT p):=by unfold dn;rw [hD]
 have hT:=TT_pos p;have hT0:TT p≠0:=by omega
 have T0:=Lib.hid hT0;have D0:Hid ((r.den:Int)≠0):=Lib.hid (by omega);have RP:=fun W=>Tryz.strings_Repeat ⟨#[48]⟩ p W (by omega) (by simp [ByteArray.size];omega)
 have TS:=tens_S p;clear hn hqe hz hD dq d0 hT hT0;rw [← E];have EE:=Lib.hid E;clear E;have RPL:=Lib.hid TS;clear TS;have hB:Below w.heap.size w w:=Below.refl _ _;show Calls Tryz.prog 122 #[.agg #[.string (S r.num),.string (S (r.den:Int))],.int .i64 (p:Int),.bool false] w _;unfold QOk;go_enter Tryz.func122, Tryz.ntmps122;go_wp2_with fail;have sB:=hB.size;refine world_cut (fun X=>Below w.heap.size w X∧Row X w.heap.size (oR r)∧Row X (w.heap.size+1) oR0∧Row X (w.heap.size+1+1) (.cells #[.bool false] 74)∧Row X (w.heap.size+1+1+1) (oR r)) ⟨C1_hB,C2,C2,C2,C2⟩ ?_;clear hB sB;rintro V1 ⟨hB,rr,ro,rk,rs⟩;have sr:=Row.cells2 rr;have so:=Row.cells2 ro;have sk:=Row.cells1 rk;have ss:=Row.cells2 rs;refine (wcheck1 _ _ r hq _ (he.below hB) rk rs).mono ?_;rintro e W1 ⟨rfl,h1⟩;clear sr so sk ss;replace hB:=hB.trans (h1.mono hB.size);replace rr:=Row.below rr h1;replace ro:=Row.below ro h1;replace rk:=Row.below rk h1;replace rs:=Row.below rs h1;clear h1;have sr:=Row.cells2 rr;have so:=Row.cells2 ro;have sk:=Row.cells1 rk;have ss:=Row.cells2 rs;clear rs ss;go_wp2_with fail;refine (RP _).mono ?_;rintro e W2 ⟨rfl,h1⟩;clear sr so sk;replace hB:=hB.trans (h1.mono hB.size);replace rr:=Row.below rr h1;replace ro:=Row.below ro h1;replace rk:=Row.below rk h1;clear h1;have sr:=Row.cells2 rr;have so:=Row.cells2 ro;have sk:=Row.cells1 rk;obtain ⟨z0,hz0⟩:∃ x:ByteArray,x=⟨(Lib.repeatL [48] p).toArray⟩:=⟨_,rfl⟩
 rw [← hz0];have RR:((⟨#[49]⟩:ByteArray) ++ z0)=S (TT p):=by rw [hz0];exact RPL.out
 have zs:z0.size≤30:=by rw [hz0,repeat_zeros];simp [ByteArray.size];omega
 clear hz0;go_wp2_with fail
 try rw [RR]
 refine (wmul _ ia it N1 fa ft fn _ (he.below hB) rk).mono ?_;rintro e W3 ⟨rfl,h1⟩;clear sr so sk;replace hB:=hB.trans (h1.mono hB.size);replace rr:=Row.below rr h1;replace ro:=Row.below ro h1;replace rk:=Row.below rk h1;clear h1;have sr:=Row.cells2 rr;have so:=Row.cells2 ro;have sk:=Row.cells1 rk;go_wp2_with fail;refine (divS in_ id_ N2 N3 fn fd D0 _ (he.below hB)).mono ?_;rintro e W2 ⟨rfl,h1⟩;clear sr so sk;replace hB:=hB.trans (h1.mono hB.size);replace rr:=Row.below rr h1;replace ro:=Row.below ro h1;replace rk:=Row.below rk h1;clear h1;have sr:=Row.cells2 rr;have so:=Row.cells2 ro;have sk:=Row.cells1 rk;go_wp2_with fail;have sB:=hB.size;refine world_cut (kq3 hB rr ro rk) ⟨C1_hB,C3_rr,C3_ro,C3_rk⟩ ?_;unfold kq3;clear rr sr ro so rk sk hB sB;rintro V3 ⟨hB,rr,ro,rk⟩;have sr:=Row.cells2 rr;have so:=Row.cells2 ro;have sk:=Row.cells1 rk;refine (wreduced _ iq it fq ft T0.out _ (he.below hB) rk).mono ?_;rintro e W6 ⟨rfl,h1⟩;clear sr so sk;replace hB:=hB.trans (h1.mono hB.size);replace rr:=Row.below rr h1;replace ro:=Row.below ro h1;replace rk:=Row.below rk h1;clear h1;have sr:=Row.cells2 rr;have so:=Row.cells2 ro;have sk:=Row.cells1 rk;unfold Q;generalize hqx:Rat.divInt q (TT p)=x at *;have HQX:=Lib.hid hqx;clear hqx;go_wp2;have sB:=hB.size;refine post_cut (kp2 hB rr rk fun X=>Row X (w.heap.size+1) (oR x)) ⟨C1_hB,C3_rr,C3_rk,C3_ro⟩ ?_;unfold kp2;clear rr sr ro so rk sk hB sB;rintro V4 ⟨hB,rr,rk,ro⟩;have sr:=Row.cells2 rr;have so:=Row.cells2 ro;have sk:=Row.cells1 rk;refine bodyPost_ret (v := .tuple #[.agg #[.string (S x.num),.string (S (x.den:Int))],.int .i64 0]) ?res rfl ⟨by rw [HQX.out];rfl,hB⟩
 case res=>simp [results,Tryz.results122, go_sem,so]
theorem round_exact {j:Nat} (r:Rat) (p:Nat) (hr:QDig j r) (hp:p≤30) (hjp:j+p+1≤200) (hz0:r.num * TT p % (r.den:Int)=0) (w:World) (he:Env w) :
  Calls Tryz.prog 122 #[Q r,.int .i64 (p:Int),.bool true] w (QOk (uq r (TT p)) w):=by
 have i1:Is ⟨#[49]⟩ 1:=is_lit (by decide) (by decide);have f1:Fits 1:=fits_lit (by decide);have d1:decide ((p:Int)<0)=false:=decide_eq_false (by omega);have d2:decide ((30:Int)<(p:Int))=false:=decide_eq_false (by omega);have hq:=hr.mono (show j≤200 by omega);have ia:=is_S r.num;have id_:=is_S (r.den:Int);have it:=is_S (TT p);have fa:Fits r.num:=hq.1;have fd:Fits (r.den:Int):=hq.2;have ft:Fits (TT p):=(TT_dig p).fits (by omega);obtain ⟨n,hn⟩:∃ n,n=r.num * TT p:=⟨_,rfl⟩
 have fn:Fits n:=by rw [hn];exact (TT_mul_dig hr.1).fits (by omega)
 obtain ⟨q,hqe⟩:∃ q,q=n / (r.den:Int):=⟨_,rfl⟩
 obtain ⟨z,hz⟩:∃ z,z=n % (r.den:Int):=⟨_,rfl⟩
 have hD:downI r (TT p)=q:=by unfold downI;rw [hqe,hn]
 have dq:Dig (j+p) q:=by rw [← hD];exact downI_dig hr
 have fq:Fits q:=dq.fits (by omega);have iq:=is_S q;have in_:=is_S n;have d0:=den_pos r;have N1:=Lib.hid hn.symm;have N2:=Lib.hid hqe.symm;have N3:=Lib.hid hz.symm;have hu:upI r (TT p)=q:=by unfold upI;rw [hD,if_pos hz0,Int.add_zero]
 have E:Rat.divInt q (TT p)=uq r (TT p):=by unfold uq;rw [hu]
 have zz:((S z).toList == [48])=true:=S_eq0 (by rw [hz,hn];exact hz0);clear hu;have hT:=TT_pos p;have hT0:TT p≠0:=by omega
 have T0:=Lib.hid hT0;have D0:Hid ((r.den:Int)≠0):=Lib.hid (by omega);have RP:=fun W=>Tryz.strings_Repeat ⟨#[48]⟩ p W (by omega) (by simp [ByteArray.size];omega)
 have TS:=tens_S p;clear hn hqe hz hD dq d0 hT hT0 hz0;rw [← E];have EE:=Lib.hid E;clear E;have RPL:=Lib.hid TS;clear TS;have hB:Below w.heap.size w w:=Below.refl _ _;show Calls Tryz.prog 122 #[.agg #[.string (S r.num),.string (S (r.den:Int))],.int .i64 (p:Int),.bool true] w _;unfold QOk;go_enter Tryz.func122, Tryz.ntmps122;go_wp2_with fail;have sB:=hB.size;refine world_cut (fun X=>Below w.heap.size w X∧Row X w.heap.size (oR r)∧Row X (w.heap.size+1) oR0∧Row X (w.heap.size+1+1) (.cells #[.bool false] 74)∧Row X (w.heap.size+1+1+1) (oR r)) ⟨C1_hB,C2,C2,C2,C2⟩ ?_;clear hB sB;rintro V1 ⟨hB,rr,ro,rk,rs⟩;have sr:=Row.cells2 rr;have so:=Row.cells2 ro;have sk:=Row.cells1 rk;have ss:=Row.cells2 rs;refine (wcheck1 _ _ r hq _ (he.below hB) rk rs).mono ?_;rintro e W1 ⟨rfl,h1⟩;clear sr so sk ss;replace hB:=hB.trans (h1.mono hB.size);replace rr:=Row.below rr h1;replace ro:=Row.below ro h1;replace rk:=Row.below rk h1;replace rs:=Row.below rs h1;clear h1;have sr:=Row.cells2 rr;have so:=Row.cells2 ro;have sk:=Row.cells1 rk;have ss:=Row.cells2 rs;clear rs ss;go_wp2_with fail;refine (RP _).mono ?_;rintro e W2 ⟨rfl,h1⟩;clear sr so sk;replace hB:=hB.trans (h1.mono hB.size);replace rr:=Row.below rr h1;replace ro:=Row.below ro h1;replace rk:=Row.below rk h1;clear h1;have sr:=Row.cells2 rr;have so:=Row.cells2 ro;have sk:=Row.cells1 rk;obtain ⟨z0,hz0⟩:∃ x:ByteArray,x=⟨(Lib.repeatL [48] p).toArray⟩:=⟨_,rfl⟩
 rw [← hz0];have RR:((⟨#[49]⟩:ByteArray) ++ z0)=S (TT p):=by rw [hz0];exact RPL.out
 have zs:z0.size≤30:=by rw [hz0,repeat_zeros];simp [ByteArray.size];omega
 clear hz0;go_wp2_with fail
 try rw [RR]
 refine (wmul _ ia it N1 fa ft fn _ (he.below hB) rk).mono ?_;rintro e W3 ⟨rfl,h1⟩;clear sr so sk;replace hB:=hB.trans (h1.mono hB.size);replace rr:=Row.below rr h1;replace ro:=Row.below ro h1;replace rk:=Row.below rk h1;clear h1;have sr:=Row.cells2 rr;have so:=Row.cells2 ro;have sk:=Row.cells1 rk;go_wp2_with fail;refine (divS in_ id_ N2 N3 fn fd D0 _ (he.below hB)).mono ?_;rintro e W2 ⟨rfl,h1⟩;clear sr so sk;replace hB:=hB.trans (h1.mono hB.size);replace rr:=Row.below rr h1;replace ro:=Row.below ro h1;replace rk:=Row.below rk h1;clear h1;have sr:=Row.cells2 rr;have so:=Row.cells2 ro;have sk:=Row.cells1 rk;go_wp2_with fail;have sB:=hB.size;refine world_cut (kq3 hB rr ro rk) ⟨C1_hB,C3_rr,C3_ro,C3_rk⟩ ?_;unfold kq3;clear rr sr ro so rk sk hB sB;rintro V3 ⟨hB,rr,ro,rk⟩;have sr:=Row.cells2 rr;have so:=Row.cells2 ro;have sk:=Row.cells1 rk;refine (wreduced _ iq it fq ft T0.out _ (he.below hB) rk).mono ?_;rintro e W6 ⟨rfl,h1⟩;clear sr so sk;replace hB:=hB.trans (h1.mono hB.size);replace rr:=Row.below rr h1;replace ro:=Row.below ro h1;replace rk:=Row.below rk h1;clear h1;have sr:=Row.cells2 rr;have so:=Row.cells2 ro;have sk:=Row.cells1 rk;unfold Q;generalize hqx:Rat.divInt q (TT p)=x at *;have HQX:=Lib.hid hqx;clear hqx;go_wp2;have sB:=hB.size;refine post_cut (kp2 hB rr rk fun X=>Row X (w.heap.size+1) (oR x)) ⟨C1_hB,C3_rr,C3_rk,C3_ro⟩ ?_;unfold kp2;clear rr sr ro so rk sk hB sB;rintro V4 ⟨hB,rr,rk,ro⟩;have sr:=Row.cells2 rr;have so:=Row.cells2 ro;have sk:=Row.cells1 rk;refine bodyPost_ret (v := .tuple #[.agg #[.string (S x.num),.string (S (x.den:Int))],.int .i64 0]) ?res rfl ⟨by rw [HQX.out];rfl,hB⟩
 case res=>simp [results,Tryz.results122, go_sem,so]
theorem round_up {j:Nat} (r:Rat) (p:Nat) (hr:QDig j r) (hp:p≤30) (hjp:j+p+1≤200) (hz0:¬ r.num * TT p % (r.den:Int)=0) (w:World) (he:Env w) :
  Calls Tryz.prog 122 #[Q r,.int .i64 (p:Int),.bool true] w (QOk (uq r (TT p)) w):=by
 have i1:Is ⟨#[49]⟩ 1:=is_lit (by decide) (by decide);have f1:Fits 1:=fits_lit (by decide);have d1:decide ((p:Int)<0)=false:=decide_eq_false (by omega);have d2:decide ((30:Int)<(p:Int))=false:=decide_eq_false (by omega);have hq:=hr.mono (show j≤200 by omega);have ia:=is_S r.num;have id_:=is_S (r.den:Int);have it:=is_S (TT p);have fa:Fits r.num:=hq.1;have fd:Fits (r.den:Int):=hq.2;have ft:Fits (TT p):=(TT_dig p).fits (by omega);obtain ⟨n,hn⟩:∃ n,n=r.num * TT p:=⟨_,rfl⟩
 have fn:Fits n:=by rw [hn];exact (TT_mul_dig hr.1).fits (by omega)
 obtain ⟨q,hqe⟩:∃ q,q=n / (r.den:Int):=⟨_,rfl⟩
 obtain ⟨z,hz⟩:∃ z,z=n % (r.den:Int):=⟨_,rfl⟩
 have hD:downI r (TT p)=q:=by unfold downI;rw [hqe,hn]
 have dq:Dig (j+p) q:=by rw [← hD];exact downI_dig hr
 have fq:Fits q:=dq.fits (by omega);have iq:=is_S q;have in_:=is_S n;have d0:=den_pos r;have N1:=Lib.hid hn.symm;have N2:=Lib.hid hqe.symm;have N3:=Lib.hid hz.symm;have hu:upI r (TT p)=q+1:=by unfold upI;rw [hD,if_neg hz0]
 have E:Rat.divInt (q+1) (TT p)=uq r (TT p):=by unfold uq;rw [hu]
 have fq1:Fits (q+1):=by rw [← hu];exact (upI_dig hr).fits (by omega)
 have iq1:=is_S (q+1);have zz:((S z).toList == [48])=false:=S_ne0 (by rw [hz,hn];exact hz0);clear hu;have eg:∀ args w,(callFunc 37 args).run Tryz.prog w = .ok (.enter 37 args) w:=enters_of Tryz.func37 (by kernel_rfl) rfl;have G:=Lib.hid (rfl:q+1=q+1);obtain ⟨q1,hq1⟩:∃ x,x=q+1:=⟨_,rfl⟩
 rw [← hq1] at E fq1 iq1;have G1:=Lib.hid hq1.symm;clear hq1 G;have hT:=TT_pos p;have hT0:TT p≠0:=by omega
 have T0:=Lib.hid hT0;have D0:Hid ((r.den:Int)≠0):=Lib.hid (by omega);have RP:=fun W=>Tryz.strings_Repeat ⟨#[48]⟩ p W (by omega) (by simp [ByteArray.size];omega)
 have TS:=tens_S p;clear hn hqe hz hD dq d0 hT hT0 hz0;rw [← E];have EE:=Lib.hid E;clear E;have RPL:=Lib.hid TS;clear TS;have hB:Below w.heap.size w w:=Below.refl _ _;show Calls Tryz.prog 122 #[.agg #[.string (S r.num),.string (S (r.den:Int))],.int .i64 (p:Int),.bool true] w _;unfold QOk;go_enter Tryz.func122, Tryz.ntmps122;go_wp2_with fail;have sB:=hB.size;refine world_cut (fun X=>Below w.heap.size w X∧Row X w.heap.size (oR r)∧Row X (w.heap.size+1) oR0∧Row X (w.heap.size+1+1) (.cells #[.bool false] 74)∧Row X (w.heap.size+1+1+1) (oR r)) ⟨C1_hB,C2,C2,C2,C2⟩ ?_;clear hB sB;rintro V1 ⟨hB,rr,ro,rk,rs⟩;have sr:=Row.cells2 rr;have so:=Row.cells2 ro;have sk:=Row.cells1 rk;have ss:=Row.cells2 rs;refine (wcheck1 _ _ r hq _ (he.below hB) rk rs).mono ?_;rintro e W1 ⟨rfl,h1⟩;clear sr so sk ss;replace hB:=hB.trans (h1.mono hB.size);replace rr:=Row.below rr h1;replace ro:=Row.below ro h1;replace rk:=Row.below rk h1;replace rs:=Row.below rs h1;clear h1;have sr:=Row.cells2 rr;have so:=Row.cells2 ro;have sk:=Row.cells1 rk;have ss:=Row.cells2 rs;clear rs ss;go_wp2_with fail;refine (RP _).mono ?_;rintro e W2 ⟨rfl,h1⟩;clear sr so sk;replace hB:=hB.trans (h1.mono hB.size);replace rr:=Row.below rr h1;replace ro:=Row.below ro h1;replace rk:=Row.below rk h1;clear h1;have sr:=Row.cells2 rr;have so:=Row.cells2 ro;have sk:=Row.cells1 rk;obtain ⟨z0,hz0⟩:∃ x:ByteArray,x=⟨(Lib.repeatL [48] p).toArray⟩:=⟨_,rfl⟩
 rw [← hz0];have RR:((⟨#[49]⟩:ByteArray) ++ z0)=S (TT p):=by rw [hz0];exact RPL.out
 have zs:z0.size≤30:=by rw [hz0,repeat_zeros];simp [ByteArray.size];omega
 clear hz0;go_wp2_with fail
 try rw [RR]
 refine (wmul _ ia it N1 fa ft fn _ (he.below hB) rk).mono ?_;rintro e W3 ⟨rfl,h1⟩;clear sr so sk;replace hB:=hB.trans (h1.mono hB.size);replace rr:=Row.below rr h1;replace ro:=Row.below ro h1;replace rk:=Row.below rk h1;clear h1;have sr:=Row.cells2 rr;have so:=Row.cells2 ro;have sk:=Row.cells1 rk;go_wp2_with fail;refine (divS in_ id_ N2 N3 fn fd D0 _ (he.below hB)).mono ?_;rintro e W2 ⟨rfl,h1⟩;clear sr so sk;replace hB:=hB.trans (h1.mono hB.size);replace rr:=Row.below rr h1;replace ro:=Row.below ro h1;replace rk:=Row.below rk h1;clear h1;have sr:=Row.cells2 rr;have so:=Row.cells2 ro;have sk:=Row.cells1 rk;go_wp2_with fail;have sB:=hB.size;refine world_cut (kq3 hB rr ro rk) ⟨C1_hB,C3_rr,C3_ro,C3_rk⟩ ?_;unfold kq3;clear rr sr ro so rk sk hB sB;rintro V3 ⟨hB,rr,ro,rk⟩;have sr:=Row.cells2 rr;have so:=Row.cells2 ro;have sk:=Row.cells1 rk;refine (wdo _ 37 _ _ q1 _ eg rk (addS iq i1 G1 fq f1 fq1 _ (he.below hB))).mono ?_;rintro e W5 ⟨rfl,h1⟩;clear sr so sk;replace hB:=hB.trans (h1.mono hB.size);replace rr:=Row.below rr h1;replace ro:=Row.below ro h1;replace rk:=Row.below rk h1;clear h1;have sr:=Row.cells2 rr;have so:=Row.cells2 ro;have sk:=Row.cells1 rk;go_wp2_with fail;refine (wreduced _ iq1 it fq1 ft T0.out _ (he.below hB) rk).mono ?_;rintro e W6 ⟨rfl,h1⟩;clear sr so sk;replace hB:=hB.trans (h1.mono hB.size);replace rr:=Row.below rr h1;replace ro:=Row.below ro h1;replace rk:=Row.below rk h1;clear h1;have sr:=Row.cells2 rr;have so:=Row.cells2 ro;have sk:=Row.cells1 rk
 unfold Q;generalize hqx:Rat.divInt q1 (TT p)=x at *;have HQX:=Lib.hid hqx;clear hqx;go_wp2;have sB:=hB.size;refine post_cut (kp2 hB rr rk fun X=>Row X (w.heap.size+1) (oR x)) ⟨C1_hB,C3_rr,C3_rk,C3_ro⟩ ?_;unfold kp2;clear rr sr ro so rk sk hB sB;rintro V4 ⟨hB,rr,rk,ro⟩;have sr:=Row.cells2 rr;have so:=Row.cells2 ro;have sk:=Row.cells1 rk;refine bodyPost_ret (v := .tuple #[.agg #[.string (S x.num),.string (S (x.den:Int))],.int .i64 0]) ?res rfl ⟨by rw [HQX.out];rfl,hB⟩
 case res=>simp [results,Tryz.results122, go_sem,so]
theorem round_any {j:Nat} (r:Rat) (p:Nat) (hr:QDig j r) (hp:p≤30) (hjp:j+p+1≤200) (w:World) (he:Env w) :
  Calls Tryz.prog 122 #[Q r,.int .i64 (p:Int),.bool true] w (QOk (uq r (TT p)) w):=by
 by_cases h:r.num * TT p % (r.den:Int)=0
 ·exact round_exact r p hr hp hjp h w he
 ·exact round_up r p hr hp hjp h w he
theorem qdown {j:Nat} (r:Rat) (p:Nat) (hr:QDig j r) (hp:p≤30) (hjp:j+p+1≤200) (w:World) (he:Env w) :
  Calls Tryz.prog 64 #[Q r,.int .i64 (p:Int)] w (QOk (dn r (TT p)) w):=by
 have hB:Below w.heap.size w w:=Below.refl _ _;have M:=fun W (h:Env W)=>round_down r p hr hp hjp W h
 unfold QOk at *;generalize dn r (TT p)=x at *;clear hr hp hjp;show Calls Tryz.prog 64 #[.agg #[.string (S r.num),.string (S (r.den:Int))],.int .i64 (p:Int)] w _;go_enter Tryz.func64, Tryz.ntmps64;go_wp2_with fail;have sB:=hB.size;refine world_cut (fun X=>Below w.heap.size w X∧Row X w.heap.size (oR r)∧Row X (w.heap.size+1) oR0) ⟨C1_hB,C2,C2⟩ ?_;clear hB sB;rintro V1 ⟨hB,rr,ro⟩;have sr:=Row.cells2 rr;have so:=Row.cells2 ro;refine (M _ (he.below hB)).mono ?_;rintro e W2 ⟨rfl,h1⟩;clear sr so;replace hB:=hB.trans (h1.mono hB.size);replace rr:=Row.below rr h1;replace ro:=Row.below ro h1;clear h1;have sr:=Row.cells2 rr;have so:=Row.cells2 ro;unfold Q;go_wp2;have sB:=hB.size;refine post_cut (kp1 hB rr fun X=>Row X (w.heap.size+1) (oR x)) ⟨C1_hB,C3_rr,C3_ro⟩ ?_;unfold kp1;clear rr sr ro so hB sB;rintro V3 ⟨hB,rr,ro⟩;have sr:=Row.cells2 rr;have so:=Row.cells2 ro;refine bodyPost_ret (v := .tuple #[.agg #[.string (S x.num),.string (S (x.den:Int))],.int .i64 0]) ?res rfl ⟨rfl,hB⟩
 case res=>simp [results,Tryz.results64, go_sem,so]
theorem qup {j:Nat} (r:Rat) (p:Nat) (hr:QDig j r) (hp:p≤30) (hjp:j+p+1≤200) (w:World) (he:Env w) :
  Calls Tryz.prog 66 #[Q r,.int .i64 (p:Int)] w (QOk (uq r (TT p)) w):=by
 have hB:Below w.heap.size w w:=Below.refl _ _;have M:=fun W (h:Env W)=>round_any r p hr hp hjp W h
 unfold QOk at *;generalize uq r (TT p)=x at *;clear hr hp hjp;show Calls Tryz.prog 66 #[.agg #[.string (S r.num),.string (S (r.den:Int))],.int .i64 (p:Int)] w _;go_enter Tryz.func66, Tryz.ntmps66;go_wp2_with fail;have sB:=hB.size;refine world_cut (fun X=>Below w.heap.size w X∧Row X w.heap.size (oR r)∧Row X (w.heap.size+1) oR0) ⟨C1_hB,C2,C2⟩ ?_;clear hB sB;rintro V1 ⟨hB,rr,ro⟩;have sr:=Row.cells2 rr;have so:=Row.cells2 ro;refine (M _ (he.below hB)).mono ?_;rintro e W2 ⟨rfl,h1⟩;clear sr so;replace hB:=hB.trans (h1.mono hB.size);replace rr:=Row.below rr h1;replace ro:=Row.below ro h1;clear h1;have sr:=Row.cells2 rr;have so:=Row.cells2 ro;unfold Q;go_wp2;have sB:=hB.size;refine post_cut (kp1 hB rr fun X=>Row X (w.heap.size+1) (oR x)) ⟨C1_hB,C3_rr,C3_ro⟩ ?_;unfold kp1;clear rr sr ro so hB sB;rintro V3 ⟨hB,rr,ro⟩;have sr:=Row.cells2 rr;have so:=Row.cells2 ro;refine bodyPost_ret (v := .tuple #[.agg #[.string (S x.num),.string (S (x.den:Int))],.int .i64 0]) ?res rfl ⟨rfl,hB⟩
 case res=>simp [results,Tryz.results66, go_sem,so]
end Go.Proofs.YtdikaoahgleffaaGreatDoor
namespace Go.Proofs.YtdikaoahgleffaaGreatDoor
open Go Go.RowKit Go.Lib Go.Shelf
theorem emusts (s:ByteArray) (w:World):Calls Tryz.prog 137 #[.string s,.int .i64 0] w fun e w'=>e = .returned (.string s)∧Below w.heap.size w w':=by
 have hB:Below w.heap.size w w:=Below.refl _ _;go_enter Tryz.func137, Tryz.ntmps137;go_wp2_with fail;refine (echeck_true _).mono ?_;rintro e W1 ⟨rfl,h1⟩;replace hB:=hB.trans (h1.mono hB.size);clear h1;go_wp2;go_ret;exact ⟨rfl,hB⟩
theorem egrid (p:Nat) (hp:p≤30) (w:World):Calls Tryz.prog 133 #[.int .i64 (p:Int)] w fun e w'=>e = .returned (.agg #[.int .i64 (p:Int),.string (S (TT p))])∧Below w.heap.size w w':=by
 have hB:Below w.heap.size w w:=Below.refl _ _;have d1:decide ((0:Int)≤(p:Int))=true:=decide_eq_true (by omega);have d2:decide ((p:Int)≤30)=true:=decide_eq_true (by omega);have g1:(0:Int)≤(p:Int):=by omega
 have g2:(p:Int)≤30:=by omega
 have RP:=fun W=>Tryz.strings_Repeat ⟨#[48]⟩ p W (by omega) (by simp [ByteArray.size];omega)
 have RPL:=Lib.hid (tens_S p);go_enter Tryz.func133, Tryz.ntmps133;go_wp2_with fail;have sB:=hB.size;refine world_cut (fun X=>Below w.heap.size w X∧Row X w.heap.size (.cells #[.int .i64 0,.string ⟨#[]⟩] 157)) ⟨C1_hB,C2⟩ ?_;clear hB sB;rintro V1 ⟨hB,ro⟩;have so:=Row.cells2 ro;refine (echeck_true _).mono ?_;rintro e W2 ⟨rfl,h1⟩;clear so;replace hB:=hB.trans (h1.mono hB.size);replace ro:=Row.below ro h1;clear h1;have so:=Row.cells2 ro;go_wp2_with fail;refine (RP _).mono ?_;rintro e W2 ⟨rfl,h1⟩;clear so;replace hB:=hB.trans (h1.mono hB.size);replace ro:=Row.below ro h1;clear h1;have so:=Row.cells2 ro;obtain ⟨z0,hz0⟩:∃ x:ByteArray,x=⟨(Lib.repeatL [48] p).toArray⟩:=⟨_,rfl⟩
 rw [← hz0];have RR:((⟨#[49]⟩:ByteArray) ++ z0)=S (TT p):=by rw [hz0];exact RPL.out
 have zs:z0.size≤30:=by rw [hz0,repeat_zeros];simp [ByteArray.size];omega
 clear hz0;go_wp2;have sB:=hB.size;refine post_cut (fun X=>Below w.heap.size w X∧Row X w.heap.size (.cells #[.int .i64 (p:Int),.string (S (TT p))] 157)) ⟨C1_hB,C3_ro⟩ ?_;clear ro so hB sB;rintro V3 ⟨hB,ro⟩;have so:=Row.cells2 ro;refine bodyPost_ret (v := .agg #[.int .i64 (p:Int),.string (S (TT p))]) ?res rfl ⟨rfl,hB⟩
 case res=>simp [results,Tryz.results133, go_sem,so]
end Go.Proofs.YtdikaoahgleffaaGreatDoor
