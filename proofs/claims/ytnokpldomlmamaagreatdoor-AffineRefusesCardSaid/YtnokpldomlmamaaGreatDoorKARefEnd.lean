/-
 AffineRefuses: the law, out of its walk.
-/
import Derived.Test.YtnokpldomlmamaaGreatDoorKAffineRefuses
import Derived.Test.YtnokpldomlmamaaGreatDoorKExtraR
set_option linter.unusedSimpArgs false
set_option linter.unusedVariables false
set_option maxRecDepth 100000
set_option maxHeartbeats 4000000
namespace Go.Proofs.YtnokpldomlmamaaGreatDoor
open Go Go.RowKit Go.Lib Go.Shelf
attribute [local go_sem] normalQ
/-- Terms 1, 2, .. with the coefficient 1. -/
def LIo (i:Nat):List RT:=(List.range i).map fun k:Nat=>⟨1+(k:Int),S (1:Rat).num,S ((1:Rat).den:Int)⟩
theorem LIo_succ (i:Nat):LIo (i+1)=LIo i ++ [⟨1+(i:Int),S (1:Rat).num,S ((1:Rat).den:Int)⟩]:=by unfold LIo;rw [List.range_succ,List.map_append];rfl
theorem LIo_len (i:Nat):(LIo i).length=i:=by unfold LIo;simp
theorem LIo_at {i k:Nat} (h:i<k):uD (LIo k) i=⟨1+(i:Int),S (1:Rat).num,S ((1:Rat).den:Int)⟩:=by
 rw [uD_get (by rw [LIo_len];exact h)]
 simp [LIo]
theorem not_src1 {m:Int} {a b:ByteArray} (h:¬ (1≤m∧m≤1000000)):¬ SrcU [⟨m,a,b⟩]:=fun hs=>by
 have:=hs 0 (by simp)
 simp [uD] at this
 omega
theorem yes_src1 {m:Int} {a b:ByteArray} (h1:1≤m) (h2:m≤1000000):SrcU [⟨m,a,b⟩]:=fun i hi=>by
 have e:i=0:=by simp at hi;omega
 subst e
 exact ⟨h1,h2,fun h=>absurd h (by decide)⟩
theorem not_src2 {l:List RT} {m:Int} {a b:ByteArray}:¬ SrcU (l ++ [⟨m,a,b⟩,⟨m,a,b⟩]):=fun hs=>by
 obtain ⟨_,_,h⟩:=hs (l.length+1) (by simp)
 have h:=h (by omega)
 rw [uD_right (by omega),uD_right (by omega)] at h
 simp [uD] at h
theorem rk_one {q:Rat} (hq:QDig 200 q) (m:Int):∀ i,i<1→RK (uD [(⟨m,S q.num,S (q.den:Int)⟩:RT)] i).a (uD [(⟨m,S q.num,S (q.den:Int)⟩:RT)] i).b (some q):=fun i hi=>by
 have e:i=0:=by omega
 subst e
 exact RK.of hq
theorem s6_len:(raws (sTo (fun _=>0) 6)).length=6:=by rw [raws_length,sTo_len]
theorem srcU_raws {l:List Trm} (h:SrcOk l):SrcU (raws l):=fun i hi=>by
 have hi2:i<l.length:=by rw [raws_length] at hi;exact hi
 obtain ⟨h1,h2⟩:=h.src _ (trD_mem hi2)
 rw [raws_at hi2]
 refine ⟨?_,?_,fun h0 => ?_⟩
 ·show (1:Int)≤((trD l i).s:Int);omega
 ·show ((trD l i).s:Int)≤1000000;omega
 ·rw [raws_at (by omega)]
  have:=h.lt (show i - 1<i by omega) hi2
  show ((trD l (i - 1)).s:Int)<((trD l i).s:Int)
  omega
theorem srcU7 {a b:ByteArray}:SrcU (raws (sTo (fun _=>0) 6) ++ [⟨7,a,b⟩]):=fun i hi=>by
 rw [List.length_append,s6_len] at hi
 have h7:i<7:=by simpa using hi
 have old:∀ k,k<6→uD (raws (sTo (fun _=>0) 6) ++ [⟨7,a,b⟩]) k=uD (raws (sTo (fun _=>0) 6)) k:=fun k hk=>uD_left (by rw [s6_len];exact hk)
 have src:=srcU_raws (sTo_src (fun _=>0) (k:=6) (by decide))
 have last:(uD (raws (sTo (fun _=>0) 6)) 5).s<7:=by
  rw [raws_at (by rw [sTo_len];decide)]
  show ((trD (sTo (fun _=>0) 6) 5).s:Int)<7
  have:(trD (sTo (fun _=>0) 6) 5).s=6:=rfl
  omega
 by_cases h6:i<6
 ·obtain ⟨a1,a2,a3⟩:=src i (by rw [s6_len];exact h6)
  rw [old i h6,old (i - 1) (by omega)]
  exact ⟨a1,a2,a3⟩
 ·obtain rfl:i=6:=by omega
  have e:uD (raws (sTo (fun _=>0) 6) ++ [⟨7,a,b⟩]) 6=⟨7,a,b⟩:=by rw [uD_right (by rw [s6_len];exact Nat.le_refl _),s6_len];rfl
  rw [e]
  refine ⟨(by decide:(1:Int)≤7),(by decide:(7:Int)≤1000000),fun _ => ?_⟩
  rw [old 5 (by decide)]
  exact last
theorem dd2:decDigits 2=[50]:=by rw [decDigits_lo (by omega)];rfl
theorem is_two:Is ⟨#[50]⟩ 2:=by
 show (⟨#[50]⟩:ByteArray).data.toList=itoa 2
 rw [show (2:Int)=((2:Nat):Int) from rfl,itoa_nn,dd2]
theorem fits_two:Fits 2:=by unfold Fits;decide +kernel
theorem no22:RK ⟨#[50]⟩ ⟨#[50]⟩ none:=fun W he =>
 qnot_d (g:=2) (by decide) (fun W=>validS (Lib.hid (by decide +kernel)) (is_two.str fits_two) W) (fun W=>validS (Lib.hid (by decide +kernel)) (is_two.str fits_two) W) (fun W=>cmpS is_two is_zero (Lib.hid (cmpZ_gt (by decide))) fits_two fits_zero W) (fun W he=>gcdS is_two is_two (Lib.hid rfl) fits_two fits_two W he) W he
theorem affineRefuses {a0 a1:Addr} {c0 r0 fa nn:Int} {x:Nat→Int} (hc0:IsInt c0) (hr0:IsInt r0) (hx:∀ i,i<6→IsInt (x i)) (hf:IsInt fa) (hn:IsInt nn) (w:World) (he:EnvA a0 a1 w) :
  Calls Tryz.prog 4 #[.agg #[.int .i64 c0,.int .i64 r0,.int .i64 (x 0),.int .i64 (x 1),.int .i64 (x 2),.int .i64 (x 3),.int .i64 (x 4),.int .i64 (x 5)],.int .i64 fa,.int .i64 nn] w (BoolOk true w):=by
 have hk0:=pk_nonneg fa (n:=7) (by decide)
 have hk1:=pk_lt fa (n:=7) (by decide)
 have PK:=fun W=>pickL8 fa 7 hf (by decide) W
 generalize pk fa 7=k at *
 have MA:=fun W=>lmade8 hc0 hr0 x hx W
 have oa:=mForm_ok c0 r0 x
 have da:=(mf_dig c0 r0 x).mono (show 9≤200 by decide)
 have la:=mForm_len c0 r0 x
 generalize mForm c0 r0 x=A at *
 obtain ⟨n2,hn2⟩:∃ z:Int,z=if 1≤nn∧nn≤1000000 then -nn else nn:=⟨_,rfl⟩
 have hbad:¬ (1≤n2∧n2≤1000000):=by rw [hn2];split <;> omega
 have hint:IntKind.i64.wrap (-nn) = -nn∨¬ (1≤nn∧nn≤1000000):=by
  by_cases h:1≤nn∧nn≤1000000
  ·left;rw [IntKind.wrap_i64];omega
  ·exact .inr h
 have q5:QDig 200 (-1 / 5):=(qd (by decide +kernel):QDig 9 _).mono (by decide)
 have q0:QDig 200 0:=(qd (by decide +kernel):QDig 9 _).mono (by decide)
 have q1:QDig 200 1:=(qd (by decide +kernel):QDig 9 _).mono (by decide)
 have q54:QDig 200 (5 / 4):=(qd (by decide +kernel):QDig 9 _).mono (by decide)
 have q14:QDig 200 (1 / 4):=(qd (by decide +kernel):QDig 9 _).mono (by decide)
 have q12:QDig 200 (1 / 2):=(qd (by decide +kernel):QDig 9 _).mono (by decide)
 have rl:(raws A.t).length=A.t.length:=raws_length _
 have NSRC:=fun (L:List RT) (h:¬ SrcU L) (p:Option Addr) (c:Nat) (hl:L.length≤1000000) (W:World) (hu:UAt 62 W p L)=>aare p L.length c rfl hl W hu
 refine refuses0 (A:=A) (S6:=raws (sTo (fun _=>0) 6)) (LI:=LIo) (q5 := -1 / 5) (q0:=0) (q1:=1) (q54:=5 / 4) (q14:=1 / 4) (q12:=1 / 2) (n:=A.t.length) (k:=k) (n2:=n2) (bb:=decide (1≤nn∧nn≤1000000))
  rfl (by omega) s6_len hk0 hk1 rfl (fun h => ?htt) (fun h => ?hff) rfl (fun i _=>LIo_succ i)
  (rat8 (by decide +kernel)) (rat8 (by decide +kernel)) (rat8 (by decide +kernel)) (rat8 (by decide +kernel)) (rat8 (by decide +kernel)) (rat8 (by decide +kernel)) ?SO
  ?N0 ?N1 ?N2 ?N3 ?N4 ?N5 ?N6 (fun W H=>sane8 W H) MA PK ?AD ?ML ?RG ?H4 ?H5 ?H6 ?H7 w he
 case htt =>
  have h:=of_decide_eq_true h
  rw [hn2,if_pos h]
  rcases hint with e | e
  ·exact e
  ·exact absurd h e
 case hff=>rw [hn2,if_neg (of_decide_eq_false h)]
 case SO =>
  intro n0 W hW
  refine (r8sourcesO (fun _=>0) (fun _ _=>by decide) W).mono ?_
  rintro e W' ⟨p,c,h1,rfl,h2⟩
  have e6:(sTo (fun _=>0) 6).length=6:=sTo_len _ _
  unfold OTT at h1
  rw [e6] at h1
  rw [e6]
  exact ⟨_,rfl,⟨p,c,rfl,own_down h1 hW⟩,h2⟩
 case N0=>exact ⟨rl,notOk_rest da q5 (by decide +kernel)⟩
 case N1=>exact ⟨rl,notOk_center da no22⟩
 case N2=>exact ⟨by rw [List.length_append,rl];rfl,notOk_wrong (o:=some 0) da (RK.of q0) rfl⟩
 case N3 =>
  refine ⟨by rw [List.length_append,rl];rfl,notOk_src (ot:=fun i=>if i<A.t.length then some (trD A.t i).c else some 1) da (fun i hi => ?_) (.inl not_src2)⟩
  rw [List.length_append,rl] at hi
  by_cases h:i<A.t.length
  ·rw [if_pos h,uD_left (by rw [rl];exact h)]
   exact rk_terms da.t i (by rw [rl];exact h)
  ·rw [if_neg h,uD_right (by rw [rl];omega),rl]
   have hj:i - A.t.length<2:=by simp at hi;omega
   generalize i - A.t.length=j at *
   rcases (show j=0∨j=1 by omega) with rfl | rfl <;> exact RK.of q1
 case N4=>exact ⟨rfl,notOk_src (ot:=fun _=>some 1) da (rk_one q1 _) (.inl (not_src1 hbad))⟩
 case N5=>exact ⟨LIo_len 65,notOk_src (ot:=fun _=>some 1) da (fun i hi=>by rw [LIo_at (by rw [LIo_len] at hi;exact hi)];exact RK.of q1) (.inr (by rw [LIo_len];decide))⟩
 case N6=>exact ⟨by rw [List.length_append,rl];rfl,notOk_wrong (o:=none) da RK.zero rfl⟩
 case AD=>exact fun W p c b1 b2 b3 b4 q m d h H nv=>aadd_bad oa da p c b1 b2 b3 b4 q m d W h H nv
 case ML=>exact fun W p c b1 b2 b3 b4 q m d h H nv=>amul_bad oa da p c b1 b2 b3 b4 q m d W h H nv
 case RG=>exact fun W b1 b2 b3 b4 q m d H nv=>arange_bad b1 b2 b3 b4 q m d W H nv
 case H4 =>
  intro W p c g h r H
  refine aat_bad1 oa da p c _ 1 1 (by decide) W h H (fun Y hY => ?_) (fun Y hY => ?_)
  ·have:=aare (l:=[⟨1,S (5 / 4:Rat).num,S ((5 / 4:Rat).den:Int)⟩]) (some ⟨g,0,none⟩) 1 1 rfl (by decide) Y (uat_new1 (Row.below r hY))
   rw [decide_eq_true (yes_src1 (by decide) (by decide))] at this
   exact this
  ·obtain ⟨P,hP⟩:∃ P:Nat→Bool,∀ i,P i = !betB (-1) 1 (some (5 / 4)):=⟨_,fun _=>rfl⟩
   have hb:∃ i,i<1∧P i=true:=⟨0,by decide,by rw [hP];decide +kernel⟩
   have:=tcontains (l:=[⟨1,S (5 / 4:Rat).num,S ((5 / 4:Rat).den:Int)⟩]) P 89 (enters_of Tryz.func89 (by kernel_rfl) rfl) (some ⟨g,0,none⟩) 1 1 rfl (by decide) Y (uat_new1 (Row.below r hY)) (fun i hi Z hZ=>by rw [hP];exact avalue _ (rk_one q54 1 i hi) Z ((H.env.below hY).below hZ))
   rw [@decide_eq_true _ _ hb] at this
   exact this
 case H5 =>
  intro W p c g h r H
  refine aat_bad0 oa da p c _ 1 1 (by decide) W h H (fun Y hY => ?_)
  have:=aare (l:=[⟨n2,S (1 / 4:Rat).num,S ((1 / 4:Rat).den:Int)⟩]) (some ⟨g,0,none⟩) 1 1 rfl (by decide) Y (uat_new1 (Row.below r hY))
  rw [decide_eq_false (not_src1 hbad)] at this
  exact this
 case H6 =>
  intro W p c g h r H
  refine acov_bad0 oa da p c oa da p c _ 1 1 (by decide) W h h H (fun Y hY => ?_)
  have:=aareS (l:=[⟨n2,S (1 / 2:Rat).num,S ((1 / 2:Rat).den:Int)⟩]) (some ⟨g,0,none⟩) 1 1 rfl (by decide) Y (.inr ⟨g,_,rfl,Row.below r hY,rfl⟩)
  rw [decide_eq_false (not_src1 hbad)] at this
  exact this
 case H7 =>
  intro W p c q d h hs H
  have l7:(raws (sTo (fun _=>0) 6) ++ [⟨7,S (5 / 4:Rat).num,S ((5 / 4:Rat).den:Int)⟩]:List RT).length=7:=by rw [List.length_append,s6_len];rfl
  have hrk:∀ i,i<7→RK (uD (raws (sTo (fun _=>0) 6) ++ [⟨7,S (5 / 4:Rat).num,S ((5 / 4:Rat).den:Int)⟩]) i).a (uD (raws (sTo (fun _=>0) 6) ++ [⟨7,S (5 / 4:Rat).num,S ((5 / 4:Rat).den:Int)⟩]) i).b (if i<6 then some (trD (sTo (fun _=>0) 6) i).c else some (5 / 4)):=fun i hi=>by
   by_cases h6:i<6
   ·rw [if_pos h6,uD_left (by rw [s6_len];exact h6)]
    exact rk_terms (fun t ht=>(((sTo_gr (fun _=>0) 6 t ht).dig (by decide) (by decide +kernel) (by decide +kernel):QDig 9 t.c)).mono (by decide)) i (by rw [s6_len];exact h6)
   ·obtain rfl:i=6:=by omega
    rw [if_neg h6,uD_right (by rw [s6_len];exact Nat.le_refl _),s6_len]
    exact RK.of q54
  have hsrc:SrcU (raws (sTo (fun _=>0) 6) ++ [⟨7,S (5 / 4:Rat).num,S ((5 / 4:Rat).den:Int)⟩]):=srcU7
  obtain ⟨P,hP⟩:∃ P:Nat→Bool,∀ i,P i = !betB 0 1 (if i<6 then some (trD (sTo (fun _=>0) 6) i).c else some (5 / 4)):=⟨_,fun _=>rfl⟩
  have hb:∃ i,i<7∧P i=true:=⟨6,by decide,by rw [hP,if_neg (by decide)];decide +kernel⟩
  have hav:∀ i,i<7→∀ Z,Env Z→Calls Tryz.prog 98 #[uV (uD (raws (sTo (fun _=>0) 6) ++ [⟨7,S (5 / 4:Rat).num,S ((5 / 4:Rat).den:Int)⟩]) i)] Z (BoolOk (P i) Z):=fun i hi Z HZ=>by
   have e:=hrk i hi
   rw [hP]
   generalize (if i<6 then some (trD (sTo (fun _=>0) 6) i).c else some (5 / 4))=o at *
   generalize uD (raws (sTo (fun _=>0) 6) ++ [⟨7,S (5 / 4:Rat).num,S ((5 / 4:Rat).den:Int)⟩]) i=x at *
   exact avar x e Z HZ
  clear hrk
  generalize raws (sTo (fun _=>0) 6) ++ [⟨7,S (5 / 4:Rat).num,S ((5 / 4:Rat).den:Int)⟩]=L at *
  refine acov_bad1 oa da p c oa da p c q 7 d (by decide) W h h H (fun Y hY => ?_) (fun Y hY => ?_)
  ·have:=aareS q 7 d l7 (by decide) Y (UAt.below hs hY)
   rw [decide_eq_true hsrc] at this
   exact this
  ·have:=scontains P 98 (enters_of Tryz.func98 (by kernel_rfl) rfl) q 7 d l7 (by decide) Y (UAt.below hs hY) (fun i hi Z hZ=>hav i hi Z ((H.env.below hY).below hZ))
   rw [@decide_eq_true _ _ hb] at this
   exact this
end Go.Proofs.YtnokpldomlmamaaGreatDoor
