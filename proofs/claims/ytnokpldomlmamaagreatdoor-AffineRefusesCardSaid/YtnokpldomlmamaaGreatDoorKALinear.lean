/-
 Package affine: linear, at valid forms, where nothing is too large.
-/
import Derived.Test.YtnokpldomlmamaaGreatDoorKALin
set_option linter.unusedSimpArgs false
set_option linter.unusedVariables false
set_option maxRecDepth 100000
set_option maxHeartbeats 16000000
namespace Go.Proofs.YtnokpldomlmamaaGreatDoor
open Go Go.RowKit Go.Lib Go.Shelf
attribute [local go_sem] normalQ
theorem Row.belowN {W W':World} {n b:Nat} {o:Obj} (h:Row W b o) (hb:b<n) (hB:Below n W W'):Row W' b o:=⟨Nat.lt_of_lt_of_le h.1 hB.size,(hB.block _ hb).trans h.2⟩
theorem snocA_ahead (o:List Trm) (s:Nat) (c:Rat) (r:List Trm):o ++ ahead s c r=snocA o s c ++ r:=by
 unfold ahead snocA;split <;> simp
theorem drop_nil' {l:List Trm} {i:Nat} (h:l.length≤i):l.drop i=[]:=List.drop_eq_nil_of_le h
theorem lin_round (p q:Rat) (a b:List Trm) (i k:Nat) :
  (a.length≤i∧b.length≤k∧lin p q (a.drop i) (b.drop k)=[])
  ∨ (i<a.length∧ordT a b i k<0∧lin p q (a.drop i) (b.drop k)=ahead (trD a i).s (p * (trD a i).c) (lin p q (a.drop (i+1)) (b.drop k)))
  ∨ (i<a.length∧k<b.length∧0<ordT a b i k∧lin p q (a.drop i) (b.drop k)=ahead (trD b k).s (q * (trD b k).c) (lin p q (a.drop i) (b.drop (k+1))))
  ∨ (a.length≤i∧k<b.length∧0<ordT a b i k∧lin p q (a.drop i) (b.drop k)=ahead (trD b k).s (q * (trD b k).c) (lin p q (a.drop i) (b.drop (k+1))))
  ∨ (i<a.length∧k<b.length∧ordT a b i k=0∧(trD a i).s=(trD b k).s∧lin p q (a.drop i) (b.drop k)=ahead (trD a i).s (p * (trD a i).c+q * (trD b k).c) (lin p q (a.drop (i+1)) (b.drop (k+1)))):=by
 by_cases h1:a.length≤i
 ·by_cases h2:b.length≤k
  ·exact .inl ⟨h1,h2,by rw [drop_nil' h1,drop_nil' h2,lin_nil]⟩
  ·refine .inr (.inr (.inr (.inl ⟨h1,by omega,?_,?_⟩)))
   ·unfold ordT;rw [if_pos h1];decide
   ·rw [drop_nil' h1,drop_trD (show k<b.length by omega),lin_right]
 ·by_cases h2:b.length≤k
  ·refine .inr (.inl ⟨by omega,?_,?_⟩)
   ·unfold ordT;rw [if_neg h1,if_pos h2];decide
   ·rw [drop_nil' h2,drop_trD (show i<a.length by omega),lin_left]
  ·have e1:=drop_trD (show i<a.length by omega)
   have e2:=drop_trD (show k<b.length by omega)
   have ho:ordT a b i k=compareInt ((trD a i).s:Int) ((trD b k).s:Int):=by unfold ordT;rw [if_neg h1,if_neg h2]
   rcases Nat.lt_trichotomy (trD a i).s (trD b k).s with h | h | h
   ·refine .inr (.inl ⟨by omega,?_,?_⟩)
    ·rw [ho];unfold compareInt;rw [if_pos (by omega)];decide
    ·rw [e1,e2,lin_both,if_pos h]
   ·refine .inr (.inr (.inr (.inr ⟨by omega,by omega,?_,h,?_⟩)))
    ·rw [ho];unfold compareInt;rw [if_neg (by omega),if_neg (by omega)]
    ·rw [e1,e2,lin_both,if_neg (by omega),if_neg (by omega)]
   ·refine .inr (.inr (.inl ⟨by omega,by omega,?_,?_⟩))
    ·rw [ho];unfold compareInt;rw [if_neg (by omega),if_pos (by omega)];decide
    ·rw [e1,e2,lin_both,if_neg (by omega),if_pos h]
def LinRes (p q:Rat) (a b:Frm) (w:World) (e:Ending) (w':World):Prop:=∃ p' c',TAt 62 w' p' (lin p q a.t b.t)∧e = .returned (.agg #[.string ⟨#[]⟩,.string ⟨#[]⟩,.slice p' (lin p q a.t b.t).length c',.string (S (absQ p * a.r+absQ q * b.r).num),.string (S ((absQ p * a.r+absQ q * b.r).den:Int))])∧Below w.heap.size w w'
theorem alinear {p q:Rat} {a b:Frm} (h:LinF p q a b) (la:a.t.length≤100000) (lb:b.t.length≤100000) (pa:Option Addr) (ca:Nat) (pb:Option Addr) (cb:Nat) (w:World) (hpa:TAt 62 w pa a.t) (hpb:TAt 62 w pb b.t) (he:Env w) :
  Calls Tryz.prog 81 #[FV a pa ca,FV b pb cb,Q p,Q q] w (LinRes p q a b w):=by
 have hB:Below w.heap.size w w:=Below.refl _ _
 obtain ⟨n,han⟩:=form_len a
 obtain ⟨m,hbm⟩:=form_len b
 have HPa:=Lib.hid hpa
 have HPb:=Lib.hid hpb
 have ML:=fun i (hi:i<a.t.length) W (H:Env W)=>nmul (h.l _ (trD_mem hi)) W H
 have DL:=fun i (hi:i<a.t.length)=>(h.l _ (trD_mem hi)).dig
 have MR:=fun k (hk:k<b.t.length) W (H:Env W)=>nmul (h.r _ (trD_mem hk)) W H
 have DR:=fun k (hk:k<b.t.length)=>(h.r _ (trD_mem hk)).dig
 have MS:=fun i k (hi:i<a.t.length) (hk:k<b.t.length) (hs:(trD a.t i).s=(trD b.t k).s) W (H:Env W)=>nadd (h.s _ (trD_mem hi) _ (trD_mem hk) hs) W H
 have DS:=fun i k (hi:i<a.t.length) (hk:k<b.t.length) (hs:(trD a.t i).s=(trD b.t k).s)=>(h.s _ (trD_mem hi) _ (trD_mem hk) hs).dig
 have MC:=fun i k W (h1:TAt 62 W pa a.t) (h2:TAt 62 W pb b.t)=>acmp i k n m ca cb pa pb han hbm W h1 h2
 have Mp:=fun W (H:Env W)=>nabs h.dp W H
 have Mq:=fun W (H:Env W)=>nabs h.dq W H
 have Mrl:=fun W (H:Env W)=>nmul h.rl W H
 have Mrr:=fun W (H:Env W)=>nmul h.rr W H
 have Mrs:=fun W (H:Env W)=>nadd h.rs W H
 have hfew:=h.few
 have LR:=lin_round p q a.t b.t
 unfold LinRes
 unfold QIs at *
 unfold IntIs at MC
 unfold FV
 unfold Q at *
 generalize absQ p * a.r+absQ q * b.r=rs at *
 generalize absQ p * a.r=rl at *
 generalize absQ q * b.r=rr at *
 generalize absQ p=ap at *
 generalize absQ q=aq at *
 rw [han,hbm]
 have hnI:(n:Int)≤100000:=by omega
 have hmI:(m:Int)≤100000:=by omega
 clear la lb
 have HLR:=Lib.hid LR
 have HAN:=Lib.hid han
 have HBM:=Lib.hid hbm
 have HLN:Hid (lin p q a.t b.t=[] ++ lin p q (a.t.drop 0) (b.t.drop 0)):=Lib.hid (by simp)
 generalize hL:lin p q a.t b.t=L at *
 clear hL LR han hbm hpa hpb h
 go_enter Tryz.func81, Tryz.ntmps81
 go_wp2_with fail
 have d0_o:w.heap.size≤w.heap.size+1+1+1+1:=by have:=hB.size;omega
 have sB:=hB.size
 refine wp_cut (fun X=>Below w.heap.size w X∧Row X w.heap.size (.cells #[.string (S a.c.num),.string (S (a.c.den:Int)),.slice pa n ca,.string (S a.r.num),.string (S (a.r.den:Int))] 58)∧Row X (w.heap.size+1) (.cells #[.string (S b.c.num),.string (S (b.c.den:Int)),.slice pb m cb,.string (S b.r.num),.string (S (b.r.den:Int))] 58)∧Row X (w.heap.size+1+1) (.cells #[.string (S p.num),.string (S (p.den:Int))] 112)∧Row X (w.heap.size+1+1+1) (.cells #[.string (S q.num),.string (S (q.den:Int))] 112)∧Row X (w.heap.size+1+1+1+1) (.cells #[.string ⟨#[]⟩,.string ⟨#[]⟩,.slice none 0 0,.string ⟨#[]⟩,.string ⟨#[]⟩] 58)) ⟨BW,RW8,RW8,RW8,RW8,RW8⟩ ?_
 clear hB sB
 rintro V1 ⟨hB,ra,rb,rp,rq,ro⟩
 have sa:=RF5 ra
 have sb:=RF5 rb
 have sp:=RF2 rp
 have sq:=RF2 rq
 have so:=RFz5 ro
 clear sa
 clear sb
 clear sp
 clear sq
 clear so
 go_loopw [9,10] (fun v9 v10 wr=>∃ (i k:Nat) (po:Option Addr) (co:Nat) (o:List Trm),v9 = .int .i64 (i:Int)∧v10 = .int .i64 (k:Int)∧i≤n∧k≤m∧Hid (L=o ++ lin p q (a.t.drop i) (b.t.drop k))∧OT wr (w.heap.size+1+1+1+1+1) po co o∧Below w.heap.size w wr∧Row wr w.heap.size (.cells #[.string (S a.c.num),.string (S (a.c.den:Int)),.slice pa n ca,.string (S a.r.num),.string (S (a.r.den:Int))] 58)∧Row wr (w.heap.size+1) (.cells #[.string (S b.c.num),.string (S (b.c.den:Int)),.slice pb m cb,.string (S b.r.num),.string (S (b.r.den:Int))] 58)∧Row wr (w.heap.size+1+1) (.cells #[.string (S p.num),.string (S (p.den:Int))] 112)∧Row wr (w.heap.size+1+1+1) (.cells #[.string (S q.num),.string (S (q.den:Int))] 112)∧Row wr (w.heap.size+1+1+1+1) (.cells #[.string ⟨#[]⟩,.string ⟨#[]⟩,.slice po o.length co,.string ⟨#[]⟩,.string ⟨#[]⟩] 58)) (fun v9 v10 _=>(n - RowKit.intOf v9).toNat+(m - RowKit.intOf v10).toNat)
 case atStart=>exact ⟨0,0,none,0,[],rfl,rfl,by omega,by omega,HLN,OT.nil _ _,hB,ra,rb,rp,rq,ro⟩
 case round =>
  clear hB ra rb rp rq ro HLN
  obtain ⟨i,k,po,co,o,rfl,rfl,hin,hkm,HL,hown,hB,ra,rb,rp,rq,ro⟩:=hrel
  have hol:o.length≤100000:=by have:=congrArg List.length HL.out;rw [List.length_append] at this;omega
  have sa:=RF5 ra
  have sb:=RF5 rb
  have sp:=RF2 rp
  have sq:=RF2 rq
  have so:=RFz5 ro
  rcases HLR.out i k with ⟨h1,h2,hs⟩ | ⟨h1,ho,hs⟩ | ⟨h1,h2,ho,hs⟩ | ⟨h1,h2,ho,hs⟩ | ⟨h1,h2,ho,hss,hs⟩
  ·have HS:=Lib.hid hs
   clear hs
   have hiI:¬ (i:Int)<(n:Int):=by have:=HAN.out;omega
   have hkI:¬ (k:Int)<(m:Int):=by have:=HBM.out;omega
   have hL:L=o:=by rw [HL.out,HS.out,List.append_nil]
   clear HL HS MC ML MR MS DL DR DS HLR
   subst hL
   have hfI:(L.length:Int)≤64:=by omega
   have FN:=fnum
   go_wp2_with fail
   refine wp_region_items 14 [.val (.agg #[.string (S p.num),.string (S (p.den:Int))]),.val (.agg #[.string (S ap.num),.string (S (ap.den:Int))]),.val (.pointer (some ⟨w.heap.size,3,none⟩)),.val (.agg #[.string (S a.r.num),.string (S (a.r.den:Int))]),.val (.agg #[.string (S a.r.num),.string (S (a.r.den:Int))]),.val (.agg #[.string (S rl.num),.string (S (rl.den:Int))]),.val (.agg #[.string (S q.num),.string (S (q.den:Int))]),.val (.agg #[.string (S aq.num),.string (S (aq.den:Int))]),.val (.pointer (some ⟨w.heap.size+1,3,none⟩)),.val (.agg #[.string (S b.r.num),.string (S (b.r.den:Int))]),.val (.agg #[.string (S b.r.num),.string (S (b.r.den:Int))]),.val (.agg #[.string (S rr.num),.string (S (rr.den:Int))]),.val (.agg #[.string (S rs.num),.string (S (rs.den:Int))]),.val (.agg #[.string (S rs.num),.string (S (rs.den:Int))])] (by kernel_rfl) (by kernel_rfl) trivial (allItems.cons (qi1 fun X h=>RF2 (Row.below rp h)) (allItems.cons (qi2 fun X h=>Mp X (he.below (hB.trans (h.mono hB.size)))) (allItems.cons qi0 (allItems.cons (qi1 fun X h=>RF5 (Row.below ra h)) (allItems.cons qi0 (allItems.cons (qi2 fun X h=>Mrl X (he.below (hB.trans (h.mono hB.size)))) (allItems.cons (qi1 fun X h=>RF2 (Row.below rq h)) (allItems.cons (qi2 fun X h=>Mq X (he.below (hB.trans (h.mono hB.size)))) (allItems.cons qi0 (allItems.cons (qi1 fun X h=>RF5 (Row.below rb h)) (allItems.cons qi0 (allItems.cons (qi2 fun X h=>Mrr X (he.below (hB.trans (h.mono hB.size)))) (allItems.cons (qi2 fun X h=>Mrs X (he.below (hB.trans (h.mono hB.size)))) (allItems.cons (qif FN) trivial)))))))))))))) ?_
   rintro W h1
   replace hown:=OT.later hown h1
   have stp:=St5 hB h1 ra rb rp rq ro;clear hB h1 ra sa rb sb rp sp rq sq ro so
   obtain ⟨hB,ra,rb,rp,rq,ro⟩:=stp
   have sa:=RF5 ra
   have sb:=RF5 rb
   have sp:=RF2 rp
   have sq:=RF2 rq
   have so:=RFz5 ro
   simp only [setItems,List.setIfInBounds_toArray,List.set_cons_succ,List.set_cons_zero,List.take_succ_cons,List.take_zero,List.drop_succ_cons,List.drop_zero]
   go_wp2_with fail
   have sB:=hB.size
   refine world_cut (fun X=>Below w.heap.size w X∧Row X w.heap.size (.cells #[.string (S a.c.num),.string (S (a.c.den:Int)),.slice pa n ca,.string (S a.r.num),.string (S (a.r.den:Int))] 58)∧Row X (w.heap.size+1) (.cells #[.string (S b.c.num),.string (S (b.c.den:Int)),.slice pb m cb,.string (S b.r.num),.string (S (b.r.den:Int))] 58)∧Row X (w.heap.size+1+1) (.cells #[.string (S p.num),.string (S (p.den:Int))] 112)∧Row X (w.heap.size+1+1+1) (.cells #[.string (S q.num),.string (S (q.den:Int))] 112)∧Row X (w.heap.size+1+1+1+1) (.cells #[.string ⟨#[]⟩,.string ⟨#[]⟩,.slice po L.length co,.string (S rs.num),.string (S (rs.den:Int))] 58)∧OT X (w.heap.size+1+1+1+1+1) po co L) ⟨BW,RW8,RW8,RW8,RW8,RW8,OW⟩ ?_
   clear ra
   clear sa
   clear rb
   clear sb
   clear rp
   clear sp
   clear rq
   clear sq
   clear ro
   clear so
   clear hB sB hown
   rintro V2 ⟨hB,ra,rb,rp,rq,ro,hown⟩
   have sa:=RF5 ra
   have sb:=RF5 rb
   have sp:=RF2 rp
   have sq:=RF2 rq
   have so:=RFz5 ro
   refine (acheck_true _).mono ?_
   rintro e W3 ⟨rfl,h1⟩
   replace hown:=OT.later hown h1
   have stp:=St5 hB h1 ra rb rp rq ro;clear hB h1 ra sa rb sb rp sp rq sq ro so
   obtain ⟨hB,ra,rb,rp,rq,ro⟩:=stp
   have sa:=RF5 ra
   have sb:=RF5 rb
   have sp:=RF2 rp
   have sq:=RF2 rq
   have so:=RFz5 ro
   go_wp2_with fail
   have sB:=hB.size
   refine post_cut (fun X=>Below w.heap.size w X∧Row X w.heap.size (.cells #[.string (S a.c.num),.string (S (a.c.den:Int)),.slice pa n ca,.string (S a.r.num),.string (S (a.r.den:Int))] 58)∧Row X (w.heap.size+1) (.cells #[.string (S b.c.num),.string (S (b.c.den:Int)),.slice pb m cb,.string (S b.r.num),.string (S (b.r.den:Int))] 58)∧Row X (w.heap.size+1+1) (.cells #[.string (S p.num),.string (S (p.den:Int))] 112)∧Row X (w.heap.size+1+1+1) (.cells #[.string (S q.num),.string (S (q.den:Int))] 112)∧Row X (w.heap.size+1+1+1+1) (.cells #[.string ⟨#[]⟩,.string ⟨#[]⟩,.slice po L.length co,.string (S rs.num),.string (S (rs.den:Int))] 58)∧OT X (w.heap.size+1+1+1+1+1) po co L) ⟨BW,RW8,RW8,RW8,RW8,RW8,OW⟩ ?_
   clear ra
   clear sa
   clear rb
   clear sb
   clear rp
   clear sp
   clear rq
   clear sq
   clear ro
   clear so
   clear hB sB hown
   rintro V4 ⟨hB,ra,rb,rp,rq,ro,hown⟩
   have sa:=RF5 ra
   have sb:=RF5 rb
   have sp:=RF2 rp
   have sq:=RF2 rq
   have so:=RFz5 ro
   refine bodyPost_ret (v := .agg #[.string ⟨#[]⟩,.string ⟨#[]⟩,.slice po L.length co,.string (S rs.num),.string (S (rs.den:Int))]) ?res rfl ⟨po,co,OT.tat hown,rfl,hB⟩
   case res=>simp [results,Tryz.results81, go_sem,so]
  ·have HS:=Lib.hid hs
   clear hs
   have hiI:(i:Int)<(n:Int):=by have:=HAN.out;omega
   have hiN:i<n:=by have:=HAN.out;omega
   have MC:=MC i k
   generalize ordT a.t b.t i k=r at *
   have ML:=ML i h1
   have DL:=DL i h1
   obtain ⟨x,hx⟩:∃ x,x=trD a.t i:=⟨_,rfl⟩
   rw [← hx] at ML DL HS
   obtain ⟨ga,gcur,rfl,rga,g0,g1,g2⟩:=TAt.at (UAt.below HPa.out hB) h1
   rw [← hx] at g0 g1 g2
   clear hx
   have Fga:∀ X,Row X ga (.cells gcur 62)→(ga<X.heap.size∧X.cell? ⟨ga,i * 3,none⟩=some (.int .i64 (x.s:Int))∧X.cell? ⟨ga,i * 3+1,none⟩=some (.string (S x.c.num))∧X.cell? ⟨ga,i * 3+2,none⟩=some (.string (S (x.c.den:Int)))):=fun X h=>⟨h.1,Row.cell_at h _ g0,Row.cell_at h _ g1,Row.cell_at h _ g2⟩
   have sga:=Fga _ rga
   generalize p * x.c=z at *
   have ho2:r<0:=ho
   clear ho
   go_wp2_with fail
   refine (MC _ (UAt.below HPa.out hB) (UAt.below HPb.out hB)).mono ?_
   rintro e W2 ⟨rfl,h1⟩
   replace hown:=OT.later hown h1
   have stp:=St6 hB h1 ra rb rp rq ro rga;clear hB h1 ra sa rb sb rp sp rq sq ro so rga sga
   obtain ⟨hB,ra,rb,rp,rq,ro,rga⟩:=stp
   have sa:=RF5 ra
   have sb:=RF5 rb
   have sp:=RF2 rp
   have sq:=RF2 rq
   have so:=RFz5 ro
   have sga:=Fga _ rga
   go_wp2_with fail
   refine wp_region_items3 16 [.val (.func (.func 156) #[] #[.pointer (some ⟨w.heap.size+1+1+1+1,0,none⟩)]),.val (.pointer (some ⟨w.heap.size,2,none⟩)),.val (.slice (some ⟨ga,0,none⟩) n ca),.val (.int .i64 (i:Int)),.val (.pointer (some ⟨ga,i * 3,none⟩)),.val (.pointer (some ⟨ga,i * 3,none⟩)),.val (.int .i64 (x.s:Int)),.val (.agg #[.string (S p.num),.string (S (p.den:Int))]),.val (.pointer (some ⟨w.heap.size,2,none⟩)),.val (.slice (some ⟨ga,0,none⟩) n ca),.val (.int .i64 (i:Int)),.val (.pointer (some ⟨ga,i * 3,none⟩)),.val (.pointer (some ⟨ga,i * 3+1,none⟩)),.val (.agg #[.string (S x.c.num),.string (S (x.c.den:Int))]),.val (.agg #[.string (S x.c.num),.string (S (x.c.den:Int))]),.val (.agg #[.string (S z.num),.string (S (z.den:Int))])] [] (by kernel_rfl) (by kernel_rfl) rfl trivial (allItems.cons qi0 (allItems.cons qi0 (allItems.cons (qi1 fun X h=>RF5 (Row.below ra h)) (allItems.cons qi0 (allItems.cons (qif hiI) (allItems.cons qi0 (allItems.cons (qi1 fun X h=>Fga X (Row.below rga h)) (allItems.cons (qi1 fun X h=>RF2 (Row.below rp h)) (allItems.cons qi0 (allItems.cons (qi1 fun X h=>RF5 (Row.below ra h)) (allItems.cons qi0 (allItems.cons (qif hiI) (allItems.cons qi0 (allItems.cons (qi1 fun X h=>Fga X (Row.below rga h)) (allItems.cons qi0 (allItems.cons (qi2 fun X h=>ML X (he.below (hB.trans (h.mono hB.size)))) trivial)))))))))))))))) ?_
   rintro W h1
   replace hown:=OT.later hown h1
   have stp:=St6 hB h1 ra rb rp rq ro rga;clear hB h1 ra sa rb sb rp sp rq sq ro so rga sga
   obtain ⟨hB,ra,rb,rp,rq,ro,rga⟩:=stp
   have sa:=RF5 ra
   have sb:=RF5 rb
   have sp:=RF2 rp
   have sq:=RF2 rq
   have so:=RFz5 ro
   have sga:=Fga _ rga
   simp only [setItems,List.setIfInBounds_toArray,List.set_cons_succ,List.set_cons_zero,List.take_succ_cons,List.take_zero,List.drop_succ_cons,List.drop_zero]
   intro _
   go_wp2_with fail
   have sbo:=ro.1
   refine (alin1 (n0:=w.heap.size+1+1+1+1+1) x.s DL (w.heap.size+1+1+1+1) _ _ _ _ po co o hol _ ro hown (by omega) sbo (Nat.le_of_lt sbo) (he.below hB)).mono ?_
   clear sa
   clear sb
   clear sp
   clear sq
   clear so
   clear sga
   rintro e W9 ⟨p',c',ro',hown',rfl,h1⟩
   clear sbo
   replace hB:=hB.trans (h1.mono (by omega))
   replace ra:=Row.belowN ra (by omega) h1
   replace rb:=Row.belowN rb (by omega) h1
   replace rp:=Row.belowN rp (by omega) h1
   replace rq:=Row.belowN rq (by omega) h1
   clear rga
   clear ro hown h1
   have ro:=ro'
   have hown:=hown'
   clear ro' hown'
   have sa:=RF5 ra
   have sb:=RF5 rb
   have sp:=RF2 rp
   have sq:=RF2 rq
   have so:=RFz5 ro
   go_wp2
   go_roundw
   case rel=>exact ⟨i+1,k,p',c',snocA o x.s z,by go_num,by go_num,by omega,by omega,Lib.hid (by rw [HL.out,HS.out,snocA_ahead]),hown,BW,RW8,RW8,RW8,RW8,RW8⟩
   case measure=>simp [RowKit.intOf];omega
  ·have HS:=Lib.hid hs
   clear hs
   have hiI:(i:Int)<(n:Int):=by have:=HAN.out;omega
   have hiN:i<n:=by have:=HAN.out;omega
   have hkN:k<m:=by have:=HBM.out;omega
   have hkI:(k:Int)<(m:Int):=by have:=HBM.out;omega
   have MC:=MC i k
   generalize ordT a.t b.t i k=r at *
   have MR:=MR k h2
   have DR:=DR k h2
   obtain ⟨y,hy⟩:∃ y,y=trD b.t k:=⟨_,rfl⟩
   rw [← hy] at MR DR HS
   obtain ⟨gb,kcur,rfl,rgb,k0,k1,k2⟩:=TAt.at (UAt.below HPb.out hB) h2
   rw [← hy] at k0 k1 k2
   clear hy
   have Fgb:∀ X,Row X gb (.cells kcur 62)→(gb<X.heap.size∧X.cell? ⟨gb,k * 3,none⟩=some (.int .i64 (y.s:Int))∧X.cell? ⟨gb,k * 3+1,none⟩=some (.string (S y.c.num))∧X.cell? ⟨gb,k * 3+2,none⟩=some (.string (S (y.c.den:Int)))):=fun X h=>⟨h.1,Row.cell_at h _ k0,Row.cell_at h _ k1,Row.cell_at h _ k2⟩
   have sgb:=Fgb _ rgb
   generalize q * y.c=z at *
   have ho2:¬ r<0:=by omega
   have ho3:0<r:=ho
   clear ho
   go_wp2_with fail
   refine (MC _ (UAt.below HPa.out hB) (UAt.below HPb.out hB)).mono ?_
   rintro e W2 ⟨rfl,h1⟩
   replace hown:=OT.later hown h1
   have stp:=St6 hB h1 ra rb rp rq ro rgb;clear hB h1 ra sa rb sb rp sp rq sq ro so rgb sgb
   obtain ⟨hB,ra,rb,rp,rq,ro,rgb⟩:=stp
   have sa:=RF5 ra
   have sb:=RF5 rb
   have sp:=RF2 rp
   have sq:=RF2 rq
   have so:=RFz5 ro
   have sgb:=Fgb _ rgb
   go_wp2_with fail
   refine wp_region_items3 16 [.val (.func (.func 156) #[] #[.pointer (some ⟨w.heap.size+1+1+1+1,0,none⟩)]),.val (.pointer (some ⟨w.heap.size+1,2,none⟩)),.val (.slice (some ⟨gb,0,none⟩) m cb),.val (.int .i64 (k:Int)),.val (.pointer (some ⟨gb,k * 3,none⟩)),.val (.pointer (some ⟨gb,k * 3,none⟩)),.val (.int .i64 (y.s:Int)),.val (.agg #[.string (S q.num),.string (S (q.den:Int))]),.val (.pointer (some ⟨w.heap.size+1,2,none⟩)),.val (.slice (some ⟨gb,0,none⟩) m cb),.val (.int .i64 (k:Int)),.val (.pointer (some ⟨gb,k * 3,none⟩)),.val (.pointer (some ⟨gb,k * 3+1,none⟩)),.val (.agg #[.string (S y.c.num),.string (S (y.c.den:Int))]),.val (.agg #[.string (S y.c.num),.string (S (y.c.den:Int))]),.val (.agg #[.string (S z.num),.string (S (z.den:Int))])] [] (by kernel_rfl) (by kernel_rfl) rfl trivial (allItems.cons qi0 (allItems.cons qi0 (allItems.cons (qi1 fun X h=>RF5 (Row.below rb h)) (allItems.cons qi0 (allItems.cons (qif hkI) (allItems.cons qi0 (allItems.cons (qi1 fun X h=>Fgb X (Row.below rgb h)) (allItems.cons (qi1 fun X h=>RF2 (Row.below rq h)) (allItems.cons qi0 (allItems.cons (qi1 fun X h=>RF5 (Row.below rb h)) (allItems.cons qi0 (allItems.cons (qif hkI) (allItems.cons qi0 (allItems.cons (qi1 fun X h=>Fgb X (Row.below rgb h)) (allItems.cons qi0 (allItems.cons (qi2 fun X h=>MR X (he.below (hB.trans (h.mono hB.size)))) trivial)))))))))))))))) ?_
   rintro W h1
   replace hown:=OT.later hown h1
   have stp:=St6 hB h1 ra rb rp rq ro rgb;clear hB h1 ra sa rb sb rp sp rq sq ro so rgb sgb
   obtain ⟨hB,ra,rb,rp,rq,ro,rgb⟩:=stp
   have sa:=RF5 ra
   have sb:=RF5 rb
   have sp:=RF2 rp
   have sq:=RF2 rq
   have so:=RFz5 ro
   have sgb:=Fgb _ rgb
   simp only [setItems,List.setIfInBounds_toArray,List.set_cons_succ,List.set_cons_zero,List.take_succ_cons,List.take_zero,List.drop_succ_cons,List.drop_zero]
   intro _
   go_wp2_with fail
   have sbo:=ro.1
   refine (alin1 (n0:=w.heap.size+1+1+1+1+1) y.s DR (w.heap.size+1+1+1+1) _ _ _ _ po co o hol _ ro hown (by omega) sbo (Nat.le_of_lt sbo) (he.below hB)).mono ?_
   clear sa
   clear sb
   clear sp
   clear sq
   clear so
   clear sgb
   rintro e W9 ⟨p',c',ro',hown',rfl,h1⟩
   clear sbo
   replace hB:=hB.trans (h1.mono (by omega))
   replace ra:=Row.belowN ra (by omega) h1
   replace rb:=Row.belowN rb (by omega) h1
   replace rp:=Row.belowN rp (by omega) h1
   replace rq:=Row.belowN rq (by omega) h1
   clear rgb
   clear ro hown h1
   have ro:=ro'
   have hown:=hown'
   clear ro' hown'
   have sa:=RF5 ra
   have sb:=RF5 rb
   have sp:=RF2 rp
   have sq:=RF2 rq
   have so:=RFz5 ro
   go_wp2
   go_roundw
   case rel=>exact ⟨i,k+1,p',c',snocA o y.s z,by go_num,by go_num,by omega,by omega,Lib.hid (by rw [HL.out,HS.out,snocA_ahead]),hown,BW,RW8,RW8,RW8,RW8,RW8⟩
   case measure=>simp [RowKit.intOf];omega
  ·have HS:=Lib.hid hs
   clear hs
   have hiI:¬ (i:Int)<(n:Int):=by have:=HAN.out;omega
   have hkN:k<m:=by have:=HBM.out;omega
   have hkI:(k:Int)<(m:Int):=by have:=HBM.out;omega
   have MC:=MC i k
   generalize ordT a.t b.t i k=r at *
   have MR:=MR k h2
   have DR:=DR k h2
   obtain ⟨y,hy⟩:∃ y,y=trD b.t k:=⟨_,rfl⟩
   rw [← hy] at MR DR HS
   obtain ⟨gb,kcur,rfl,rgb,k0,k1,k2⟩:=TAt.at (UAt.below HPb.out hB) h2
   rw [← hy] at k0 k1 k2
   clear hy
   have Fgb:∀ X,Row X gb (.cells kcur 62)→(gb<X.heap.size∧X.cell? ⟨gb,k * 3,none⟩=some (.int .i64 (y.s:Int))∧X.cell? ⟨gb,k * 3+1,none⟩=some (.string (S y.c.num))∧X.cell? ⟨gb,k * 3+2,none⟩=some (.string (S (y.c.den:Int)))):=fun X h=>⟨h.1,Row.cell_at h _ k0,Row.cell_at h _ k1,Row.cell_at h _ k2⟩
   have sgb:=Fgb _ rgb
   generalize q * y.c=z at *
   have ho2:¬ r<0:=by omega
   have ho3:0<r:=ho
   clear ho
   go_wp2_with fail
   refine (MC _ (UAt.below HPa.out hB) (UAt.below HPb.out hB)).mono ?_
   rintro e W2 ⟨rfl,h1⟩
   replace hown:=OT.later hown h1
   have stp:=St6 hB h1 ra rb rp rq ro rgb;clear hB h1 ra sa rb sb rp sp rq sq ro so rgb sgb
   obtain ⟨hB,ra,rb,rp,rq,ro,rgb⟩:=stp
   have sa:=RF5 ra
   have sb:=RF5 rb
   have sp:=RF2 rp
   have sq:=RF2 rq
   have so:=RFz5 ro
   have sgb:=Fgb _ rgb
   go_wp2_with fail
   refine wp_region_items3 16 [.val (.func (.func 156) #[] #[.pointer (some ⟨w.heap.size+1+1+1+1,0,none⟩)]),.val (.pointer (some ⟨w.heap.size+1,2,none⟩)),.val (.slice (some ⟨gb,0,none⟩) m cb),.val (.int .i64 (k:Int)),.val (.pointer (some ⟨gb,k * 3,none⟩)),.val (.pointer (some ⟨gb,k * 3,none⟩)),.val (.int .i64 (y.s:Int)),.val (.agg #[.string (S q.num),.string (S (q.den:Int))]),.val (.pointer (some ⟨w.heap.size+1,2,none⟩)),.val (.slice (some ⟨gb,0,none⟩) m cb),.val (.int .i64 (k:Int)),.val (.pointer (some ⟨gb,k * 3,none⟩)),.val (.pointer (some ⟨gb,k * 3+1,none⟩)),.val (.agg #[.string (S y.c.num),.string (S (y.c.den:Int))]),.val (.agg #[.string (S y.c.num),.string (S (y.c.den:Int))]),.val (.agg #[.string (S z.num),.string (S (z.den:Int))])] [] (by kernel_rfl) (by kernel_rfl) rfl trivial (allItems.cons qi0 (allItems.cons qi0 (allItems.cons (qi1 fun X h=>RF5 (Row.below rb h)) (allItems.cons qi0 (allItems.cons (qif hkI) (allItems.cons qi0 (allItems.cons (qi1 fun X h=>Fgb X (Row.below rgb h)) (allItems.cons (qi1 fun X h=>RF2 (Row.below rq h)) (allItems.cons qi0 (allItems.cons (qi1 fun X h=>RF5 (Row.below rb h)) (allItems.cons qi0 (allItems.cons (qif hkI) (allItems.cons qi0 (allItems.cons (qi1 fun X h=>Fgb X (Row.below rgb h)) (allItems.cons qi0 (allItems.cons (qi2 fun X h=>MR X (he.below (hB.trans (h.mono hB.size)))) trivial)))))))))))))))) ?_
   rintro W h1
   replace hown:=OT.later hown h1
   have stp:=St6 hB h1 ra rb rp rq ro rgb;clear hB h1 ra sa rb sb rp sp rq sq ro so rgb sgb
   obtain ⟨hB,ra,rb,rp,rq,ro,rgb⟩:=stp
   have sa:=RF5 ra
   have sb:=RF5 rb
   have sp:=RF2 rp
   have sq:=RF2 rq
   have so:=RFz5 ro
   have sgb:=Fgb _ rgb
   simp only [setItems,List.setIfInBounds_toArray,List.set_cons_succ,List.set_cons_zero,List.take_succ_cons,List.take_zero,List.drop_succ_cons,List.drop_zero]
   intro _
   go_wp2_with fail
   have sbo:=ro.1
   refine (alin1 (n0:=w.heap.size+1+1+1+1+1) y.s DR (w.heap.size+1+1+1+1) _ _ _ _ po co o hol _ ro hown (by omega) sbo (Nat.le_of_lt sbo) (he.below hB)).mono ?_
   clear sa
   clear sb
   clear sp
   clear sq
   clear so
   clear sgb
   rintro e W9 ⟨p',c',ro',hown',rfl,h1⟩
   clear sbo
   replace hB:=hB.trans (h1.mono (by omega))
   replace ra:=Row.belowN ra (by omega) h1
   replace rb:=Row.belowN rb (by omega) h1
   replace rp:=Row.belowN rp (by omega) h1
   replace rq:=Row.belowN rq (by omega) h1
   clear rgb
   clear ro hown h1
   have ro:=ro'
   have hown:=hown'
   clear ro' hown'
   have sa:=RF5 ra
   have sb:=RF5 rb
   have sp:=RF2 rp
   have sq:=RF2 rq
   have so:=RFz5 ro
   go_wp2
   go_roundw
   case rel=>exact ⟨i,k+1,p',c',snocA o y.s z,by go_num,by go_num,by omega,by omega,Lib.hid (by rw [HL.out,HS.out,snocA_ahead]),hown,BW,RW8,RW8,RW8,RW8,RW8⟩
   case measure=>simp [RowKit.intOf];omega
  ·have HS:=Lib.hid hs
   clear hs
   have hiI:(i:Int)<(n:Int):=by have:=HAN.out;omega
   have hiN:i<n:=by have:=HAN.out;omega
   have hkN:k<m:=by have:=HBM.out;omega
   have hkI:(k:Int)<(m:Int):=by have:=HBM.out;omega
   have MC:=MC i k
   generalize ordT a.t b.t i k=r at *
   have ML:=ML i h1
   have DL:=DL i h1
   have MR:=MR k h2
   have DR:=DR k h2
   have MS:=MS i k h1 h2 hss
   have DS:=DS i k h1 h2 hss
   clear hss
   obtain ⟨x,hx⟩:∃ x,x=trD a.t i:=⟨_,rfl⟩
   rw [← hx] at ML DL HS MS DS
   obtain ⟨y,hy⟩:∃ y,y=trD b.t k:=⟨_,rfl⟩
   rw [← hy] at MR DR HS MS DS
   obtain ⟨ga,gcur,rfl,rga,g0,g1,g2⟩:=TAt.at (UAt.below HPa.out hB) h1
   rw [← hx] at g0 g1 g2
   clear hx
   have Fga:∀ X,Row X ga (.cells gcur 62)→(ga<X.heap.size∧X.cell? ⟨ga,i * 3,none⟩=some (.int .i64 (x.s:Int))∧X.cell? ⟨ga,i * 3+1,none⟩=some (.string (S x.c.num))∧X.cell? ⟨ga,i * 3+2,none⟩=some (.string (S (x.c.den:Int)))):=fun X h=>⟨h.1,Row.cell_at h _ g0,Row.cell_at h _ g1,Row.cell_at h _ g2⟩
   have sga:=Fga _ rga
   obtain ⟨gb,kcur,rfl,rgb,k0,k1,k2⟩:=TAt.at (UAt.below HPb.out hB) h2
   rw [← hy] at k0 k1 k2
   clear hy
   have Fgb:∀ X,Row X gb (.cells kcur 62)→(gb<X.heap.size∧X.cell? ⟨gb,k * 3,none⟩=some (.int .i64 (y.s:Int))∧X.cell? ⟨gb,k * 3+1,none⟩=some (.string (S y.c.num))∧X.cell? ⟨gb,k * 3+2,none⟩=some (.string (S (y.c.den:Int)))):=fun X h=>⟨h.1,Row.cell_at h _ k0,Row.cell_at h _ k1,Row.cell_at h _ k2⟩
   have sgb:=Fgb _ rgb
   generalize hz:p * x.c+q * y.c=z at *
   have HZ:=Lib.hid hz
   clear hz
   generalize p * x.c=zx at *
   generalize q * y.c=zy at *
   have ho2:¬ r<0:=by omega
   have ho3:¬ 0<r:=by omega
   clear ho
   go_wp2_with fail
   refine (MC _ (UAt.below HPa.out hB) (UAt.below HPb.out hB)).mono ?_
   rintro e W2 ⟨rfl,h1⟩
   replace hown:=OT.later hown h1
   have stp:=St7 hB h1 ra rb rp rq ro rga rgb;clear hB h1 ra sa rb sb rp sp rq sq ro so rga sga rgb sgb
   obtain ⟨hB,ra,rb,rp,rq,ro,rga,rgb⟩:=stp
   have sa:=RF5 ra
   have sb:=RF5 rb
   have sp:=RF2 rp
   have sq:=RF2 rq
   have so:=RFz5 ro
   have sga:=Fga _ rga
   have sgb:=Fgb _ rgb
   go_wp2_with fail
   refine wp_region_items3 26 [.val (.func (.func 156) #[] #[.pointer (some ⟨w.heap.size+1+1+1+1,0,none⟩)]),.val (.pointer (some ⟨w.heap.size,2,none⟩)),.val (.slice (some ⟨ga,0,none⟩) n ca),.val (.int .i64 (i:Int)),.val (.pointer (some ⟨ga,i * 3,none⟩)),.val (.pointer (some ⟨ga,i * 3,none⟩)),.val (.int .i64 (x.s:Int)),.val (.agg #[.string (S p.num),.string (S (p.den:Int))]),.val (.pointer (some ⟨w.heap.size,2,none⟩)),.val (.slice (some ⟨ga,0,none⟩) n ca),.val (.int .i64 (i:Int)),.val (.pointer (some ⟨ga,i * 3,none⟩)),.val (.pointer (some ⟨ga,i * 3+1,none⟩)),.val (.agg #[.string (S x.c.num),.string (S (x.c.den:Int))]),.val (.agg #[.string (S x.c.num),.string (S (x.c.den:Int))]),.val (.agg #[.string (S zx.num),.string (S (zx.den:Int))]),.val (.agg #[.string (S q.num),.string (S (q.den:Int))]),.val (.pointer (some ⟨w.heap.size+1,2,none⟩)),.val (.slice (some ⟨gb,0,none⟩) m cb),.val (.int .i64 (k:Int)),.val (.pointer (some ⟨gb,k * 3,none⟩)),.val (.pointer (some ⟨gb,k * 3+1,none⟩)),.val (.agg #[.string (S y.c.num),.string (S (y.c.den:Int))]),.val (.agg #[.string (S y.c.num),.string (S (y.c.den:Int))]),.val (.agg #[.string (S zy.num),.string (S (zy.den:Int))]),.val (.agg #[.string (S z.num),.string (S (z.den:Int))])] [] (by kernel_rfl) (by kernel_rfl) rfl trivial (allItems.cons qi0 (allItems.cons qi0 (allItems.cons (qi1 fun X h=>RF5 (Row.below ra h)) (allItems.cons qi0 (allItems.cons (qif hiI) (allItems.cons qi0 (allItems.cons (qi1 fun X h=>Fga X (Row.below rga h)) (allItems.cons (qi1 fun X h=>RF2 (Row.below rp h)) (allItems.cons qi0 (allItems.cons (qi1 fun X h=>RF5 (Row.below ra h)) (allItems.cons qi0 (allItems.cons (qif hiI) (allItems.cons qi0 (allItems.cons (qi1 fun X h=>Fga X (Row.below rga h)) (allItems.cons qi0 (allItems.cons (qi2 fun X h=>ML X (he.below (hB.trans (h.mono hB.size)))) (allItems.cons (qi1 fun X h=>RF2 (Row.below rq h)) (allItems.cons qi0 (allItems.cons (qi1 fun X h=>RF5 (Row.below rb h)) (allItems.cons qi0 (allItems.cons (qif hkI) (allItems.cons qi0 (allItems.cons (qi1 fun X h=>Fgb X (Row.below rgb h)) (allItems.cons qi0 (allItems.cons (qi2 fun X h=>MR X (he.below (hB.trans (h.mono hB.size)))) (allItems.cons (qi2 fun X h=>MS X (he.below (hB.trans (h.mono hB.size)))) trivial)))))))))))))))))))))))))) ?_
   rintro W h1
   replace hown:=OT.later hown h1
   have stp:=St7 hB h1 ra rb rp rq ro rga rgb;clear hB h1 ra sa rb sb rp sp rq sq ro so rga sga rgb sgb
   obtain ⟨hB,ra,rb,rp,rq,ro,rga,rgb⟩:=stp
   have sa:=RF5 ra
   have sb:=RF5 rb
   have sp:=RF2 rp
   have sq:=RF2 rq
   have so:=RFz5 ro
   have sga:=Fga _ rga
   have sgb:=Fgb _ rgb
   simp only [setItems,List.setIfInBounds_toArray,List.set_cons_succ,List.set_cons_zero,List.take_succ_cons,List.take_zero,List.drop_succ_cons,List.drop_zero]
   intro _
   go_wp2_with fail
   have sbo:=ro.1
   refine (alin1 (n0:=w.heap.size+1+1+1+1+1) x.s DS (w.heap.size+1+1+1+1) _ _ _ _ po co o hol _ ro hown (by omega) sbo (Nat.le_of_lt sbo) (he.below hB)).mono ?_
   clear sa
   clear sb
   clear sp
   clear sq
   clear so
   clear sga
   clear sgb
   rintro e W9 ⟨p',c',ro',hown',rfl,h1⟩
   clear sbo
   replace hB:=hB.trans (h1.mono (by omega))
   replace ra:=Row.belowN ra (by omega) h1
   replace rb:=Row.belowN rb (by omega) h1
   replace rp:=Row.belowN rp (by omega) h1
   replace rq:=Row.belowN rq (by omega) h1
   clear rga
   clear rgb
   clear ro hown h1
   have ro:=ro'
   have hown:=hown'
   clear ro' hown'
   have sa:=RF5 ra
   have sb:=RF5 rb
   have sp:=RF2 rp
   have sq:=RF2 rq
   have so:=RFz5 ro
   go_wp2
   go_roundw
   case rel=>exact ⟨i+1,k+1,p',c',snocA o x.s z,by go_num,by go_num,by omega,by omega,Lib.hid (by rw [HL.out,HS.out,snocA_ahead]),hown,BW,RW8,RW8,RW8,RW8,RW8⟩
   case measure=>simp [RowKit.intOf];omega
end Go.Proofs.YtnokpldomlmamaaGreatDoor
