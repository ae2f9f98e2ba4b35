/-
 The affine laws and their reference: indices, fractions, values and sources that integers determine.
-/
import Derived.Test.YtnokpldomlmamaaGreatDoorKAAt
import Derived.Test.YtnokpldomlmamaaGreatDoorKAComb
import Derived.Test.YtnokpldomlmamaaGreatDoorKALin
import Derived.Test.YtnokpldomlmamaaGreatDoorKRQ
set_option linter.unusedSimpArgs false
set_option linter.unusedVariables false
set_option maxRecDepth 100000
set_option maxHeartbeats 16000000
namespace Go.Proofs.YtnokpldomlmamaaGreatDoor
open Go Go.RowKit Go.Lib Go.Shelf
attribute [local go_sem] normalQ
theorem pick8 (c n:Int) (hc:IsInt c) (hn:0<n) (w:World):Calls Tryz.prog 104 #[.int .i64 c,.int .i64 n] w fun e w'=>e = .returned (.int .i64 (pk c n))∧Below w.heap.size w w':=by
 obtain ⟨c0,c1⟩:=hc
 have nz:¬ n=0:=by omega
 by_cases h:c<0
 ·have e : -((c+1).tmod n)=pk c n:=by unfold pk;rw [if_pos h,← Int.neg_tmod,Int.tmod_eq_emod_of_nonneg (by omega)]
  have E:=Lib.hid e
  clear e
  go_enter Tryz.func104, Tryz.ntmps104
  go_wp2
  go_ret
  refine ⟨?_,Below.refl _ _⟩
  rw [← E.out]
  rfl
 ·have e:c.tmod n=pk c n:=by unfold pk;rw [if_neg h,Int.tmod_eq_emod_of_nonneg (by omega)]
  have E:=Lib.hid e
  clear e
  go_enter Tryz.func104, Tryz.ntmps104
  go_wp2
  go_ret
  refine ⟨?_,Below.refl _ _⟩
  rw [← E.out]
  first | rfl | (rw [Int.tmod_eq_emod_of_nonneg (by omega)];rfl)
theorem pickL8 (c n:Int) (hc:IsInt c) (hn:0<n) (w:World):Calls Tryz.prog 27 #[.int .i64 c,.int .i64 n] w fun e w'=>e = .returned (.int .i64 (pk c n))∧Below w.heap.size w w':=by
 obtain ⟨c0,c1⟩:=hc
 have nz:¬ n=0:=by omega
 by_cases h:c<0
 ·have e : -((c+1).tmod n)=pk c n:=by unfold pk;rw [if_pos h,← Int.neg_tmod,Int.tmod_eq_emod_of_nonneg (by omega)]
  have E:=Lib.hid e
  clear e
  go_enter Tryz.func27, Tryz.ntmps27
  go_wp2
  go_ret
  refine ⟨?_,Below.refl _ _⟩
  rw [← E.out]
  rfl
 ·have e:c.tmod n=pk c n:=by unfold pk;rw [if_neg h,Int.tmod_eq_emod_of_nonneg (by omega)]
  have E:=Lib.hid e
  clear e
  go_enter Tryz.func27, Tryz.ntmps27
  go_wp2
  go_ret
  refine ⟨?_,Below.refl _ _⟩
  rw [← E.out]
  first | rfl | (rw [Int.tmod_eq_emod_of_nonneg (by omega)];rfl)
theorem lratio8 {n d:Int} (hn:IsInt n) (hd:IsInt d) (hd0:0<d) (w:World):Calls Tryz.prog 26 #[.int .i64 n,.int .i64 d] w (QIs (Rat.divInt n d) w):=by
 have hB:Below w.heap.size w w:=Below.refl _ _
 have M:=fun W=>rqof hn hd hd0 W
 unfold QOk Q at M
 unfold QIs Q
 generalize Rat.divInt n d=q at *
 clear hn hd hd0
 go_enter Tryz.func26, Tryz.ntmps26
 go_wp2_with fail
 have d0_o:w.heap.size≤w.heap.size:=by have:=hB.size;omega
 have sB:=hB.size
 refine world_cut (fun X=>Below w.heap.size w X∧Row X w.heap.size (.cells #[.string ⟨#[]⟩,.string ⟨#[]⟩] 23)) ⟨BW,RW8⟩ ?_
 clear hB sB
 rintro V1 ⟨hB,ro⟩
 have so:=RFz2 ro
 refine (M _).mono ?_
 rintro e W2 ⟨rfl,h1⟩
 have stp:=St1 hB h1 ro;clear hB h1 ro so
 obtain ⟨hB,ro⟩:=stp
 have so:=RFz2 ro
 go_wp2_with fail
 have sB:=hB.size
 refine post_cut (fun X=>Below w.heap.size w X∧Row X w.heap.size (.cells #[.string (S q.num),.string (S (q.den:Int))] 23)) ⟨BW,RW8⟩ ?_
 clear ro
 clear so
 clear hB sB
 rintro V3 ⟨hB,ro⟩
 have so:=RFz2 ro
 refine bodyPost_ret (v := .agg #[.string (S q.num),.string (S (q.den:Int))]) ?res rfl ⟨rfl,hB⟩
 case res=>simp [results,Tryz.results26, go_sem,so]
theorem six_get (x:Nat→Int) {i:Nat} (hi:i<6):(#[.int .i64 (x 0),.int .i64 (x 1),.int .i64 (x 2),.int .i64 (x 3),.int .i64 (x 4),.int .i64 (x 5)]:Array Value)[i]? = some (.int .i64 (x i)):=by
 rcases (show i=0∨i=1∨i=2∨i=3∨i=4∨i=5 by omega) with rfl | rfl | rfl | rfl | rfl | rfl <;> rfl
def ListRes (T:TypeId) (l:List Trm) (w:World) (e:Ending) (w':World):Prop:=∃ p c,TAt T w' p l∧e = .returned (.slice p l.length c)∧Below w.heap.size w w'
def ListCap (T:TypeId) (l:List Trm) (w:World) (e:Ending) (w':World):Prop:=∃ p c,TAt T w' p l∧l.length≤c∧e = .returned (.slice p l.length c)∧Below w.heap.size w w'
theorem own_cap {W:World} {n0 k m c n:Nat} {T:TypeId} {p:Option Addr} {xs:List Value} (h:W.ownsRow n0 T k (.slice p m c) n xs):m≤c:=by
 rcases h.2 with ⟨e,_⟩ | ⟨g,cap,cur,e,_,_,h1,_⟩ <;> (injection e with _ e1 e2;omega)
/-- A row of terms, or of sources, of its own. -/
abbrev OTT (T:TypeId) (W:World) (n0:Nat) (p:Option Addr) (c:Nat) (l:List Trm):Prop:=W.ownsRow n0 T 3 (.slice p l.length c) l.length (uCells (raws l))
theorem OTT.later {T:TypeId} {W W':World} {n0:Nat} {p:Option Addr} {c:Nat} {l:List Trm} (h:OTT T W n0 p c l) (hB:Below W.heap.size W W'):OTT T W' n0 p c l:=own_later h hB
theorem sourceInfo:(Tryz.prog.info? 70).map (fun i=>(i.zero,i.size,i.bytes))=some (some (.agg #[.int .i64 0,.string ⟨#[]⟩,.string ⟨#[]⟩]),3,40):=by kernel_rfl
/-- The builtin append of one source that lies in a block. -/
theorem wpl_append_source {ops:Array Oper} {rest:List Oper} {o:Oper} {a:Act} {Q:Exit→Act→World→Prop} {w:World} (hgd:o.guard=none) (s x:Operand)
  (ho:o.op = .call { callee := .builtin .append,args:=#[s,x],argTypes:=#[71, 71] }) (n0:Nat) (p:Option Addr) (c:Nat) (l:List Trm) (t:Trm) (hs:a.eval s = .slice p l.length c) (hown:OTT 70 w n0 p c l)
  (B:Nat) (hx:a.eval x = .slice (some ⟨B,0,none⟩) 1 1) (hr:Row w B (.cells #[.int .i64 (t.s:Int),.string (S t.c.num),.string (S (t.c.den:Int))] 70)) (hl:l.length≤100000) (hbase:n0≤w.heap.size)
  (h:∀ p' c' w',OTT 70 w' n0 p' c' (l ++ [t])→w.grownBy w' (Value.slice p l.length c).ownBlock→wpList Tryz.prog ops Q rest (a.put o.dst (.slice p' (l ++ [t]).length c')) w'):wpList Tryz.prog ops Q (o :: rest) a w:=by
 obtain ⟨i0,hi,hz0,hz1,hz2⟩:=info_parts sourceInfo
 refine wpList_append_reads _ hgd s x 71 ho n0 70 i0 (.agg #[.int .i64 0,.string ⟨#[]⟩,.string ⟨#[]⟩]) 3 40 Tryz.underlying71 hi hz0 hz1 hz2 rfl (by decide) (.slice p l.length c) l.length (uCells (raws l)) hs hown (B+1) (some ⟨B,0,none⟩) 1 1
  [.int .i64 (t.s:Int),.string (S t.c.num),.string (S (t.c.den:Int))] hx ?_ ?_ (by unfold maxLen;omega) (by omega) hbase ?_
 ·refine ⟨rfl,fun _=>⟨_,rfl,Nat.lt_succ_self _,fun j u hu => ?_⟩⟩
  have:=Row.cell_lit' hr j (v:=u) (by rw [← hu];simp)
  rcases Nat.eq_zero_or_pos j with rfl | hj
  ·simpa [Addr.add] using this
  ·simpa [Addr.add,Nat.ne_of_gt hj] using this
 ·intro u hu
  simp only [List.mem_cons,List.not_mem_nil,or_false] at hu
  rcases hu with rfl | rfl | rfl <;> rfl
 ·intro v' w' hown' hg
  obtain ⟨p',c',rfl⟩:=own_slice hown'
  have hlen:(l ++ [t]).length=l.length+1:=by simp
  rw [← uCells_snoc] at hown'
  have ho2:OTT 70 w' n0 p' c' (l ++ [t]):=by unfold OTT;rw [hlen];exact hown'
  have:=h p' c' w' ho2 hg
  rw [hlen] at this
  exact this
theorem r8values (x:Nat→Int) (hx:∀ i,i<6→IsInt (x i)) (w:World):Calls Tryz.prog 35 #[.agg #[.int .i64 (x 0),.int .i64 (x 1),.int .i64 (x 2),.int .i64 (x 3),.int .i64 (x 4),.int .i64 (x 5)]] w (ListCap 62 (vTo x 6) w):=by
 have hB:Below w.heap.size w w:=Below.refl _ _
 unfold ListCap
 go_enter Tryz.func35, Tryz.ntmps35
 go_wp2_with fail
 have sB:=hB.size
 refine wp_cut (fun X=>Below w.heap.size w X∧Row X w.heap.size (.cells #[.int .i64 (x 0),.int .i64 (x 1),.int .i64 (x 2),.int .i64 (x 3),.int .i64 (x 4),.int .i64 (x 5)] 53)) ⟨BW,RW8⟩ ?_
 clear hB sB
 rintro V1 ⟨hB,rx⟩
 have sx:=RF6 rx
 clear sx
 obtain ⟨xs,hxs⟩:∃ z:Array Value,z=#[.int .i64 (x 0),.int .i64 (x 1),.int .i64 (x 2),.int .i64 (x 3),.int .i64 (x 4),.int .i64 (x 5)]:=⟨_,rfl⟩
 rw [← hxs] at rx
 have HXS:=Lib.hid hxs
 clear hxs
 go_loopw [3,4] (fun v3 v4 wr=>∃ (i c:Nat) (p:Option Addr),v3 = .slice p (vTo x i).length c∧v4 = .int .i64 (i:Int)∧i≤6∧OTT 62 wr (w.heap.size+1) p c (vTo x i)∧Below w.heap.size w wr∧Row wr w.heap.size (.cells xs 53)) (fun _ v4 _=>(6 - RowKit.intOf v4).toNat)
 case atStart=>exact ⟨0,0,none,rfl,rfl,by omega,⟨rfl,.inl ⟨rfl,rfl⟩⟩,hB,rx⟩
 case round =>
  clear hB rx
  obtain ⟨i,c,p,rfl,rfl,hi6,hown,hB,rx⟩:=hrel
  rcases Nat.lt_or_ge i 6 with hlt | hge
  ·have hxi:xs[i]? = some (.int .i64 (x i)):=by rw [HXS.out];exact six_get x hlt
   have hiI:(i:Int)<6:=by omega
   have hlen:(vTo x i).length=i:=vTo_len x i
   have hl2:(vTo x i).length≤100000:=by omega
   have hsuc:=vTo_succ x i
   have MP:=fun W=>pick8 (x i) 17 (hx i hlt) (by decide) W
   have a1:=pk_nonneg (x i) (n:=17) (by decide)
   have a2:=pk_lt (x i) (n:=17) (by decide)
   generalize pk (x i) 17=k at *
   have MO:=fun W=>rqof (n:=k - 8) (d:=8) ⟨by omega,by omega⟩ (by decide) (by decide) W
   unfold QOk Q at MO
   generalize Rat.divInt (k - 8) 8=q at *
   have hs:((i+1:Nat):Int)=1+(i:Int):=by omega
   have HSUC:=Lib.hid hsuc
   have HLEN:=Lib.hid hlen
   clear hsuc hlen
   have Fx:∀ X,Row X w.heap.size (.cells xs 53)→(w.heap.size<X.heap.size∧X.cell? ⟨w.heap.size,i,none⟩=some (.int .i64 (x i))):=fun X h=>⟨h.1,Row.cell_at h _ hxi⟩
   have sx:=Fx _ rx
   go_wp2_with fail
   refine (MP _).mono ?_
   rintro e W2 ⟨rfl,h1⟩
   replace hown:=OTT.later hown h1
   have stp:=St1 hB h1 rx;clear hB h1 rx sx
   obtain ⟨hB,rx⟩:=stp
   have sx:=Fx _ rx
   go_wp2_with fail
   refine (MO _).mono ?_
   rintro e W3 ⟨rfl,h1⟩
   replace hown:=OTT.later hown h1
   have stp:=St1 hB h1 rx;clear hB h1 rx sx
   obtain ⟨hB,rx⟩:=stp
   have sx:=Fx _ rx
   go_upto_region 6 with fail
   have dx_r:w.heap.size<W3.heap.size:=by omega
   have d0_r:w.heap.size≤W3.heap.size:=by have:=hB.size;omega
   have sB:=hB.size
   refine wp_cut (fun X=>Below w.heap.size w X∧Row X w.heap.size (.cells xs 53)∧Row X W3.heap.size (.cells #[.string (S q.num),.string (S (q.den:Int))] 23)∧OTT 62 X (w.heap.size+1) p c (vTo x i)) ⟨BW,RW8,RW8,OW⟩ ?_
   clear rx
   clear sx
   clear hB sB hown
   rintro V4 ⟨hB,rx,rr,hown⟩
   have sx:=Fx _ rx
   have sr:=RFz2 rr
   go_wp2_with (at_builtin;refine wpl_append_term rfl (.tmp 20) (.tmp 25) rfl (w.heap.size+1) p c (vTo x i) ⟨i+1,q⟩ rfl (World.ownsRow.alloc hown _) _ rfl (by rw [hs];exact row_new _ _) hl2 (by simp;have:=hB.size;omega) ?_;intro p' c' W7 hown' hg';replace rx:=own_row_ne (World.ownsRow.alloc hown _) hg' (Row.alloc rx _) (by omega);replace hB:=Below.grown (hB.alloc hB.size _) hg' (by simp;have:=hB.size;omega) (fun k hk=>by have:=(World.ownsRow.lt hown k hk).1;omega);clear hg' hown)
   go_wp2
   go_roundw
   case rel=>exact ⟨i+1,c',p',by rw [HSUC.out];simp only [List.length_append,List.length_cons,List.length_nil,Nat.zero_add],by go_num,by omega,by rw [HSUC.out];exact hown',BW,rx⟩
   case measure=>simp [RowKit.intOf];omega
  ·obtain rfl:i=6:=by omega
   go_wp2
   go_ret
   exact ⟨p,c,own_uat hown (raws_length _),own_cap hown,rfl,hB⟩
theorem r8sources (x:Nat→Int) (hx:∀ i,i<6→IsInt (x i)) (w:World):Calls Tryz.prog 33 #[.agg #[.int .i64 (x 0),.int .i64 (x 1),.int .i64 (x 2),.int .i64 (x 3),.int .i64 (x 4),.int .i64 (x 5)]] w (ListRes 70 (sTo x 6) w):=by
 have hB:Below w.heap.size w w:=Below.refl _ _
 unfold ListRes
 go_enter Tryz.func33, Tryz.ntmps33
 go_wp2_with fail
 have sB:=hB.size
 refine wp_cut (fun X=>Below w.heap.size w X∧Row X w.heap.size (.cells #[.int .i64 (x 0),.int .i64 (x 1),.int .i64 (x 2),.int .i64 (x 3),.int .i64 (x 4),.int .i64 (x 5)] 53)) ⟨BW,RW8⟩ ?_
 clear hB sB
 rintro V1 ⟨hB,rx⟩
 have sx:=RF6 rx
 clear sx
 obtain ⟨xs,hxs⟩:∃ z:Array Value,z=#[.int .i64 (x 0),.int .i64 (x 1),.int .i64 (x 2),.int .i64 (x 3),.int .i64 (x 4),.int .i64 (x 5)]:=⟨_,rfl⟩
 rw [← hxs] at rx
 have HXS:=Lib.hid hxs
 clear hxs
 go_loopw [3,4] (fun v3 v4 wr=>∃ (i c:Nat) (p:Option Addr),v3 = .slice p (sTo x i).length c∧v4 = .int .i64 (i:Int)∧i≤6∧OTT 70 wr (w.heap.size+1) p c (sTo x i)∧Below w.heap.size w wr∧Row wr w.heap.size (.cells xs 53)) (fun _ v4 _=>(6 - RowKit.intOf v4).toNat)
 case atStart=>exact ⟨0,0,none,rfl,rfl,by omega,⟨rfl,.inl ⟨rfl,rfl⟩⟩,hB,rx⟩
 case round =>
  clear hB rx
  obtain ⟨i,c,p,rfl,rfl,hi6,hown,hB,rx⟩:=hrel
  rcases Nat.lt_or_ge i 6 with hlt | hge
  ·have hxi:xs[i]? = some (.int .i64 (x i)):=by rw [HXS.out];exact six_get x hlt
   have hiI:(i:Int)<6:=by omega
   have hlen:(sTo x i).length=i:=sTo_len x i
   have hl2:(sTo x i).length≤100000:=by omega
   have hsuc:=sTo_succ x i
   have MP:=fun W=>pick8 (x i) 9 (hx i hlt) (by decide) W
   have a1:=pk_nonneg (x i) (n:=9) (by decide)
   have a2:=pk_lt (x i) (n:=9) (by decide)
   generalize pk (x i) 9=k at *
   have MO:=fun W=>rqof (n:=k) (d:=8) ⟨by omega,by omega⟩ (by decide) (by decide) W
   unfold QOk Q at MO
   generalize Rat.divInt (k) 8=q at *
   have hs:((i+1:Nat):Int)=1+(i:Int):=by omega
   have HSUC:=Lib.hid hsuc
   have HLEN:=Lib.hid hlen
   clear hsuc hlen
   have Fx:∀ X,Row X w.heap.size (.cells xs 53)→(w.heap.size<X.heap.size∧X.cell? ⟨w.heap.size,i,none⟩=some (.int .i64 (x i))):=fun X h=>⟨h.1,Row.cell_at h _ hxi⟩
   have sx:=Fx _ rx
   go_wp2_with fail
   refine (MP _).mono ?_
   rintro e W2 ⟨rfl,h1⟩
   replace hown:=OTT.later hown h1
   have stp:=St1 hB h1 rx;clear hB h1 rx sx
   obtain ⟨hB,rx⟩:=stp
   have sx:=Fx _ rx
   go_wp2_with fail
   refine (MO _).mono ?_
   rintro e W3 ⟨rfl,h1⟩
   replace hown:=OTT.later hown h1
   have stp:=St1 hB h1 rx;clear hB h1 rx sx
   obtain ⟨hB,rx⟩:=stp
   have sx:=Fx _ rx
   go_upto_region 6 with fail
   have dx_r:w.heap.size<W3.heap.size:=by omega
   have d0_r:w.heap.size≤W3.heap.size:=by have:=hB.size;omega
   have sB:=hB.size
   refine wp_cut (fun X=>Below w.heap.size w X∧Row X w.heap.size (.cells xs 53)∧Row X W3.heap.size (.cells #[.string (S q.num),.string (S (q.den:Int))] 23)∧OTT 70 X (w.heap.size+1) p c (sTo x i)) ⟨BW,RW8,RW8,OW⟩ ?_
   clear rx
   clear sx
   clear hB sB hown
   rintro V4 ⟨hB,rx,rr,hown⟩
   have sx:=Fx _ rx
   have sr:=RFz2 rr
   go_wp2_with (at_builtin;refine wpl_append_source rfl (.tmp 19) (.tmp 24) rfl (w.heap.size+1) p c (sTo x i) ⟨i+1,q⟩ rfl (World.ownsRow.alloc hown _) _ rfl (by rw [hs];exact row_new _ _) hl2 (by simp;have:=hB.size;omega) ?_;intro p' c' W7 hown' hg';replace rx:=own_row_ne (World.ownsRow.alloc hown _) hg' (Row.alloc rx _) (by omega);replace hB:=Below.grown (hB.alloc hB.size _) hg' (by simp;have:=hB.size;omega) (fun k hk=>by have:=(World.ownsRow.lt hown k hk).1;omega);clear hg' hown)
   go_wp2
   go_roundw
   case rel=>exact ⟨i+1,c',p',by rw [HSUC.out];simp only [List.length_append,List.length_cons,List.length_nil,Nat.zero_add],by go_num,by omega,by rw [HSUC.out];exact hown',BW,rx⟩
   case measure=>simp [RowKit.intOf];omega
  ·obtain rfl:i=6:=by omega
   go_wp2
   go_ret
   exact ⟨p,c,own_uat hown (raws_length _),rfl,hB⟩
theorem r8made {c0 r0:Int} (hc:IsInt c0) (hr:IsInt r0) (x:Nat→Int) (hx:∀ i,i<6→IsInt (x i)) (w:World):Calls Tryz.prog 76 #[.int .i64 c0,.int .i64 r0,.agg #[.int .i64 (x 0),.int .i64 (x 1),.int .i64 (x 2),.int .i64 (x 3),.int .i64 (x 4),.int .i64 (x 5)]] w (FIs (mForm c0 r0 x) w):=by
 have hB:Below w.heap.size w w:=Below.refl _ _
 have P1:=fun W=>pick8 c0 161 hc (by decide) W
 have a1:=pk_nonneg c0 (n:=161) (by decide)
 have a2:=pk_lt c0 (n:=161) (by decide)
 have P2:=fun W=>pick8 r0 9 hr (by decide) W
 have b1:=pk_nonneg r0 (n:=9) (by decide)
 have b2:=pk_lt r0 (n:=9) (by decide)
 unfold FIs FV mForm
 generalize pk c0 161=kc at *
 generalize pk r0 9=kr at *
 have O1:=fun W=>rqof (n:=kc - 80) (d:=4) ⟨by omega,by omega⟩ (by decide) (by decide) W
 have O2:=fun W=>rqof (n:=kr) (d:=4) ⟨by omega,by omega⟩ (by decide) (by decide) W
 unfold QOk Q at O1 O2
 generalize Rat.divInt (kc - 80) 4=qc at *
 generalize Rat.divInt kr 4=qr at *
 clear hc hr
 go_enter Tryz.func76, Tryz.ntmps76
 go_wp2_with fail
 have d0_o:w.heap.size≤w.heap.size+1:=by have:=hB.size;omega
 have d0_f:w.heap.size≤w.heap.size+1+1:=by have:=hB.size;omega
 have sB:=hB.size
 refine world_cut (fun X=>Below w.heap.size w X∧Row X w.heap.size (.cells #[.int .i64 (x 0),.int .i64 (x 1),.int .i64 (x 2),.int .i64 (x 3),.int .i64 (x 4),.int .i64 (x 5)] 53)∧Row X (w.heap.size+1) (.cells #[.string ⟨#[]⟩,.string ⟨#[]⟩,.slice none 0 0,.string ⟨#[]⟩,.string ⟨#[]⟩] 58)∧Row X (w.heap.size+1+1) (.cells #[.string ⟨#[]⟩,.string ⟨#[]⟩,.slice none 0 0,.string ⟨#[]⟩,.string ⟨#[]⟩] 58)) ⟨BW,RW8,RW8,RW8⟩ ?_
 clear hB sB
 rintro V1 ⟨hB,rx,ro,rf⟩
 have sx:=RF6 rx
 have so:=RFz5 ro
 have sf:=RFz5 rf
 refine (P1 _).mono ?_
 rintro e W2 ⟨rfl,h1⟩
 have stp:=St3 hB h1 rx ro rf;clear hB h1 rx sx ro so rf sf
 obtain ⟨hB,rx,ro,rf⟩:=stp
 have sx:=RF6 rx
 have so:=RFz5 ro
 have sf:=RFz5 rf
 go_wp2_with fail
 refine (O1 _).mono ?_
 rintro e W3 ⟨rfl,h1⟩
 have stp:=St3 hB h1 rx ro rf;clear hB h1 rx sx ro so rf sf
 obtain ⟨hB,rx,ro,rf⟩:=stp
 have sx:=RF6 rx
 have so:=RFz5 ro
 have sf:=RFz5 rf
 go_wp2_with fail
 have sB:=hB.size
 refine world_cut (fun X=>Below w.heap.size w X∧Row X w.heap.size (.cells #[.int .i64 (x 0),.int .i64 (x 1),.int .i64 (x 2),.int .i64 (x 3),.int .i64 (x 4),.int .i64 (x 5)] 53)∧Row X (w.heap.size+1) (.cells #[.string ⟨#[]⟩,.string ⟨#[]⟩,.slice none 0 0,.string ⟨#[]⟩,.string ⟨#[]⟩] 58)∧Row X (w.heap.size+1+1) (.cells #[.string (S qc.num),.string (S (qc.den:Int)),.slice none 0 0,.string ⟨#[]⟩,.string ⟨#[]⟩] 58)) ⟨BW,RW8,RW8,RW8⟩ ?_
 clear rx
 clear sx
 clear ro
 clear so
 clear rf
 clear sf
 clear hB sB
 rintro V4 ⟨hB,rx,ro,rf⟩
 have sx:=RF6 rx
 have so:=RFz5 ro
 have sf:=RFz5 rf
 refine (P2 _).mono ?_
 rintro e W5 ⟨rfl,h1⟩
 have stp:=St3 hB h1 rx ro rf;clear hB h1 rx sx ro so rf sf
 obtain ⟨hB,rx,ro,rf⟩:=stp
 have sx:=RF6 rx
 have so:=RFz5 ro
 have sf:=RFz5 rf
 go_wp2_with fail
 refine (O2 _).mono ?_
 rintro e W6 ⟨rfl,h1⟩
 have stp:=St3 hB h1 rx ro rf;clear hB h1 rx sx ro so rf sf
 obtain ⟨hB,rx,ro,rf⟩:=stp
 have sx:=RF6 rx
 have so:=RFz5 ro
 have sf:=RFz5 rf
 go_wp2_with fail
 have sB:=hB.size
 refine wp_cut (fun X=>Below w.heap.size w X∧Row X w.heap.size (.cells #[.int .i64 (x 0),.int .i64 (x 1),.int .i64 (x 2),.int .i64 (x 3),.int .i64 (x 4),.int .i64 (x 5)] 53)∧Row X (w.heap.size+1) (.cells #[.string ⟨#[]⟩,.string ⟨#[]⟩,.slice none 0 0,.string ⟨#[]⟩,.string ⟨#[]⟩] 58)∧Row X (w.heap.size+1+1) (.cells #[.string (S qc.num),.string (S (qc.den:Int)),.slice none 0 0,.string (S qr.num),.string (S (qr.den:Int))] 58)) ⟨BW,RW8,RW8,RW8⟩ ?_
 clear rx
 clear sx
 clear ro
 clear so
 clear rf
 clear sf
 clear hB sB
 rintro V7 ⟨hB,rx,ro,rf⟩
 have sx:=RF6 rx
 have so:=RFz5 ro
 have sf:=RFz5 rf
 clear sx
 clear so
 clear sf
 obtain ⟨xs,hxs⟩:∃ z:Array Value,z=#[.int .i64 (x 0),.int .i64 (x 1),.int .i64 (x 2),.int .i64 (x 3),.int .i64 (x 4),.int .i64 (x 5)]:=⟨_,rfl⟩
 rw [← hxs] at rx
 have HXS:=Lib.hid hxs
 clear hxs a1 a2 b1 b2
 have lf:=rf.1
 have lo_:=ro.1
 have lx:=rx.1
 obtain ⟨n0,hn0e⟩:∃ z,z=V7.heap.size:=⟨_,rfl⟩
 have hbf0:w.heap.size+1+1<n0:=by omega
 have hbx0:w.heap.size<n0:=by omega
 have hbo0:w.heap.size+1<n0:=by omega
 have hn0:n0≤V7.heap.size:=by omega
 clear lf lo_ lx hn0e
 go_loopw [8] (fun v8 wr=>∃ (i c:Nat) (p:Option Addr),v8 = .int .i64 (i:Int)∧i≤6∧OT wr n0 p c (mTo x i)∧n0≤wr.heap.size∧Below w.heap.size w wr∧Row wr w.heap.size (.cells xs 53)∧Row wr (w.heap.size+1) (.cells #[.string ⟨#[]⟩,.string ⟨#[]⟩,.slice none 0 0,.string ⟨#[]⟩,.string ⟨#[]⟩] 58)∧Row wr (w.heap.size+1+1) (.cells #[.string (S qc.num),.string (S (qc.den:Int)),.slice p (mTo x i).length c,.string (S qr.num),.string (S (qr.den:Int))] 58)) (fun v8 _=>(6 - RowKit.intOf v8).toNat)
 case atStart=>exact ⟨0,0,none,rfl,by omega,OT.nil _ _,hn0,hB,rx,ro,rf⟩
 case round =>
  clear hB rx ro rf hn0
  obtain ⟨i,c,p,rfl,hi6,hown,hn0,hB,rx,ro,rf⟩:=hrel
  rcases Nat.lt_or_ge i 6 with hlt | hge
  ·have hxi:xs[i]? = some (.int .i64 (x i)):=by rw [HXS.out];exact six_get x hlt
   have hiI:(i:Int)<6:=by omega
   have hl5:=mTo_len x i
   have hl2:(mTo x i).length≤100000:=by omega
   have MP:=fun W=>pick8 (x i) 17 (hx i hlt) (by decide) W
   have a1:=pk_nonneg (x i) (n:=17) (by decide)
   have a2:=pk_lt (x i) (n:=17) (by decide)
   have hsuc:mTo x (i+1)=if pk (x i) 17 - 8≠0∧(mTo x i).length<5 then mTo x i ++ [⟨i+1,Rat.divInt (pk (x i) 17 - 8) 4⟩] else mTo x i:=rfl
   generalize pk (x i) 17=k at *
   have MO:=fun W=>rqof (n:=k - 8) (d:=4) ⟨by omega,by omega⟩ (by decide) (by decide) W
   unfold QOk Q at MO
   generalize Rat.divInt (k - 8) 4=q at *
   have hs:((i+1:Nat):Int)=1+(i:Int):=by omega
   obtain ⟨g,hg⟩:∃ g,k - 8=g:=⟨_,rfl⟩
   rw [hg] at hsuc MO
   have HSUC:=Lib.hid hsuc
   clear hsuc
   have Fx:∀ X,Row X w.heap.size (.cells xs 53)→(w.heap.size<X.heap.size∧X.cell? ⟨w.heap.size,i,none⟩=some (.int .i64 (x i))):=fun X h=>⟨h.1,Row.cell_at h _ hxi⟩
   have sx:=Fx _ rx
   have so:=RFz5 ro
   have sf:=RFz5 rf
   go_wp2_with fail
   refine (MP _).mono ?_
   rintro e W8 ⟨rfl,h1⟩
   replace hown:=OT.later hown h1
   replace hn0:=le_below hn0 h1
   have stp:=St3 hB h1 rx ro rf;clear hB h1 rx sx ro so rf sf
   obtain ⟨hB,rx,ro,rf⟩:=stp
   have sx:=Fx _ rx
   have so:=RFz5 ro
   have sf:=RFz5 rf
   by_cases hz:g=0
   ·have HZ:=Lib.hid hz
    subst hz
    have hsame:mTo x (i+1)=mTo x i:=by rw [HSUC.out,if_neg (fun h=>h.1 rfl)]
    go_wp2
    go_roundw
    case rel=>exact ⟨i+1,c,p,by go_num,by omega,by rw [hsame];exact OW,(by first | omega | (simp;omega)),BW,RW8,RW8,by rw [hsame];exact RW8⟩
    case measure=>simp [RowKit.intOf];omega
   ·have hzb:(g == 0)=false:=beq_eq_false_iff_ne.2 hz
    rcases Nat.lt_or_ge (mTo x i).length 5 with h5 | h5
    ·have h5I:((mTo x i).length:Int)<5:=by omega
     have happ:mTo x (i+1)=mTo x i ++ [⟨i+1,q⟩]:=by rw [HSUC.out,if_pos ⟨hz,h5⟩]
     have HAPP:=Lib.hid happ
     clear happ
     go_wp2_with fail
     refine (MO _).mono ?_
     rintro e W9 ⟨rfl,h1⟩
     replace hown:=OT.later hown h1
     replace hn0:=le_below hn0 h1
     have stp:=St3 hB h1 rx ro rf;clear hB h1 rx sx ro so rf sf
     obtain ⟨hB,rx,ro,rf⟩:=stp
     have sx:=Fx _ rx
     have so:=RFz5 ro
     have sf:=RFz5 rf
     go_upto_region 10 with fail
     have dx_r:w.heap.size<W9.heap.size:=by omega
     have do_r:w.heap.size+1<W9.heap.size:=by omega
     have df_r:w.heap.size+1+1<W9.heap.size:=by omega
     have d0_r:w.heap.size≤W9.heap.size:=by have:=hB.size;omega
     have sB:=hB.size
     refine wp_cut (fun X=>Below w.heap.size w X∧Row X w.heap.size (.cells xs 53)∧Row X (w.heap.size+1) (.cells #[.string ⟨#[]⟩,.string ⟨#[]⟩,.slice none 0 0,.string ⟨#[]⟩,.string ⟨#[]⟩] 58)∧Row X (w.heap.size+1+1) (.cells #[.string (S qc.num),.string (S (qc.den:Int)),.slice p (mTo x i).length c,.string (S qr.num),.string (S (qr.den:Int))] 58)∧Row X W9.heap.size (.cells #[.string (S q.num),.string (S (q.den:Int))] 23)∧OT X n0 p c (mTo x i)∧n0≤X.heap.size) ⟨BW,RW8,RW8,RW8,RW8,OW,(by first | omega | (simp;omega))⟩ ?_
     clear rx
     clear sx
     clear ro
     clear so
     clear rf
     clear sf
     clear hB sB hown hn0
     rintro V10 ⟨hB,rx,ro,rf,rr,hown,hn0⟩
     have sx:=Fx _ rx
     have so:=RFz5 ro
     have sf:=RFz5 rf
     have sr:=RFz2 rr
     go_wp2_with (at_builtin;refine wpl_append_term rfl (.tmp 51) (.tmp 56) rfl n0 p c (mTo x i) ⟨i+1,q⟩ rfl (World.ownsRow.alloc hown _) _ rfl (by rw [hs];exact row_new _ _) hl2 (by simp;omega) ?_;intro p' c' W7 hown' hg';replace rx:=own_row_ne (World.ownsRow.alloc hown _) hg' (Row.alloc rx _) (by omega);replace ro:=own_row_ne (World.ownsRow.alloc hown _) hg' (Row.alloc ro _) (by omega);replace rf:=own_row_ne (World.ownsRow.alloc hown _) hg' (Row.alloc rf _) (by omega);replace hB:=Below.grown (hB.alloc hB.size _) hg' (by simp;have:=hB.size;omega) (fun k hk=>by have:=(World.ownsRow.lt hown k hk).1;omega);have hn7:n0≤W7.heap.size:=Nat.le_trans (by simp;omega) hg'.size;clear hg' hown hn0;have sf:=RFz5 rf)
     go_wp2
     go_roundw
     case rel=>exact ⟨i+1,c',p',by go_num,by omega,by rw [HAPP.out];exact own_other hown' rf form_ne 2 _,(by simp;omega),BW,RW8,RW8,by rw [HAPP.out];simp only [List.length_append,List.length_cons,List.length_nil,Nat.zero_add];exact RW8⟩
     case measure=>simp [RowKit.intOf];omega
    ·have h5I:¬ ((mTo x i).length:Int)<5:=by omega
     have hsame:mTo x (i+1)=mTo x i:=by rw [HSUC.out,if_neg (fun h=>absurd h.2 (by omega))]
     go_wp2
     go_roundw
     case rel=>exact ⟨i+1,c,p,by go_num,by omega,by rw [hsame];exact OW,(by first | omega | (simp;omega)),BW,RW8,RW8,by rw [hsame];exact RW8⟩
     case measure=>simp [RowKit.intOf];omega
  ·obtain rfl:i=6:=by omega
   have Fx:∀ X,Row X w.heap.size (.cells xs 53)→(w.heap.size<X.heap.size):=fun X h=>h.1
   have sx:=Fx _ rx
   have so:=RFz5 ro
   have sf:=RFz5 rf
   go_wp2_with fail
   clear Fx
   have sB:=hB.size
   refine post_cut (fun X=>Below w.heap.size w X∧Row X (w.heap.size+1) (.cells #[.string (S qc.num),.string (S (qc.den:Int)),.slice p (mTo x 6).length c,.string (S qr.num),.string (S (qr.den:Int))] 58)∧OT X n0 p c (mTo x 6)) ⟨BW,RW8,OW⟩ ?_
   clear rx
   clear sx
   clear ro
   clear so
   clear rf
   clear sf
   clear hB sB hown
   rintro V8 ⟨hB,ro,hown⟩
   have so:=RFz5 ro
   refine bodyPost_ret (v := .agg #[.string (S qc.num),.string (S (qc.den:Int)),.slice p (mTo x 6).length c,.string (S qr.num),.string (S (qr.den:Int))]) ?res rfl ⟨p,c,OT.tat hown,rfl,hB⟩
   case res=>simp [results,Tryz.results76, go_sem,so]
end Go.Proofs.YtnokpldomlmamaaGreatDoor
