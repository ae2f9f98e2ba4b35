/-
 Package enclosure: roots on a grid, and Sqrt.
-/
import Derived.Test.YtnokpldomlmamaaGreatDoorKECompute
import Derived.Test.YtnokpldomlmamaaGreatDoorKERound
set_option linter.unusedSimpArgs false
set_option linter.unusedVariables false
set_option maxRecDepth 100000
set_option maxHeartbeats 4000000
namespace Go.Proofs.YtnokpldomlmamaaGreatDoor
open Go Go.RowKit Go.Lib Go.Shelf
theorem isRoot_int {q m:Int} (h:IsRootI q m):0≤q∧0≤m∧IsRoot q.natAbs m.natAbs:=by
 obtain ⟨h0,h1,h2⟩:=h
 have hq:0≤q:=Int.le_trans (Int.mul_nonneg h0 h0) h1
 refine ⟨hq,h0,?_⟩
 obtain ⟨Q,rfl⟩:∃ Q:Nat,q=Q:=⟨q.natAbs,by omega⟩
 obtain ⟨M,rfl⟩:∃ M:Nat,m=M:=⟨m.natAbs,by omega⟩
 rw [Int.natAbs_natCast,Int.natAbs_natCast]
 exact ⟨by exact_mod_cast h1,by exact_mod_cast h2⟩
theorem exists_rootI {q:Int} (h:0≤q):∃ m,IsRootI q m:=by
 obtain ⟨Q,rfl⟩:∃ Q:Nat,q=Q:=⟨q.natAbs,by omega⟩
 obtain ⟨r,h1,h2⟩:=exists_root Q
 exact ⟨r,by omega,by exact_mod_cast h1,by exact_mod_cast h2⟩
theorem rootQ_nonneg {r:Rat} {T:Int} (h:0≤r) (hT:0<T):0≤rootQ r T:=by
 unfold rootQ
 refine Int.ediv_nonneg (Int.mul_nonneg (Int.mul_nonneg (Rat.num_nonneg.2 h) (by omega)) (by omega)) (by have:=den_pos r;omega)
/-- What root hands back: the root, and whether it is exact. -/
def GrootOk (r:Rat) (T m:Int) (w:World) (e:Ending) (w':World):Prop:=∃ b:Bool,(b=true ↔ ExactR r T m)∧e = .returned (.tuple #[.string (S m),.bool b])∧Below w.heap.size w w'
theorem eroot_rest {j:Nat} (p:Nat) (r:Rat) (m:Int) (hr:QDig j r) (hp:p≤30) (hjp:j+p+p≤200) (hm:IsRootI (rootQ r (TT p)) m) (hx:¬ r.num * TT p * TT p % (r.den:Int)=0) (w:World) (he:Env w) :
  Calls Tryz.prog 211 #[.agg #[.int .i64 (p:Int),.string (S (TT p))],Q r] w (GrootOk r (TT p) m w):=by
 have hq:=hr.mono (show j≤200 by omega)
 have ia:=is_S r.num
 have id_:=is_S (r.den:Int)
 have it:=is_S (TT p)
 have fa:Fits r.num:=hq.1
 have fd:Fits (r.den:Int):=hq.2
 have ft:Fits (TT p):=(TT_dig p).fits (by omega)
 obtain ⟨n1,hn1⟩:∃ n,n=r.num * TT p:=⟨_,rfl⟩
 obtain ⟨n,hn⟩:∃ n,n=n1 * TT p:=⟨_,rfl⟩
 have dn1:Dig (j+p) n1:=by rw [hn1];exact TT_mul_dig hr.1
 have dn:Dig (j+p+p) n:=by rw [hn];exact TT_mul_dig dn1
 have fn1:=dn1.fits (by omega)
 have fn:=dn.fits (by omega)
 obtain ⟨q,hqe⟩:∃ q,q=n / (r.den:Int):=⟨_,rfl⟩
 obtain ⟨z,hz⟩:∃ z,z=n % (r.den:Int):=⟨_,rfl⟩
 have hQ:rootQ r (TT p)=q:=by unfold rootQ;rw [hqe,hn,hn1]
 have fq:Fits q:=by rw [hqe];exact (dn.ediv _).fits (by omega)
 rw [hQ] at hm
 have hroot:=Lib.hid (isRoot_int hm)
 have lm:=root_le hm
 have fm:Fits m:=(Fits.dig fq).of_le (by omega)
 have N1:=Lib.hid hn1.symm
 have N2:=Lib.hid hn.symm
 have N3:=Lib.hid hqe.symm
 have N4:=Lib.hid hz.symm
 have d0:=den_pos r
 have D0:Hid ((r.den:Int)≠0):=Lib.hid (by omega)
 have in1:=is_S n1
 have in_:=is_S n
 have iq:=is_S q
 have im:=is_S m
 have hzr:z=r.num * TT p * TT p % (r.den:Int):=by rw [hz,hn,hn1]
 have X:Hid ¬ ExactR r (TT p) m:=Lib.hid (fun h=>hx (by rw [← h.1]))
 have zz:((S z).toList == [48])=false:=S_ne0 (by rw [hzr];exact hx)
 clear hx
 clear hn1 hn hqe hz hzr dn1 dn hQ hm lm d0
 obtain ⟨ra,rb,hB⟩:Row ((w.alloc (.cells #[.int .i64 (p:Int),.string (S (TT p))] 218)).alloc (.cells #[.string (S r.num),.string (S (r.den:Int))] 23)) w.heap.size (.cells #[.int .i64 (p:Int),.string (S (TT p))] 218)∧Row ((w.alloc (.cells #[.int .i64 (p:Int),.string (S (TT p))] 218)).alloc (.cells #[.string (S r.num),.string (S (r.den:Int))] 23)) (w.heap.size+1) (.cells #[.string (S r.num),.string (S (r.den:Int))] 23)∧Below w.heap.size w ((w.alloc (.cells #[.int .i64 (p:Int),.string (S (TT p))] 218)).alloc (.cells #[.string (S r.num),.string (S (r.den:Int))] 23)):=by
  refine ⟨C2,C2,?_⟩
  have hB:=Below.refl w.heap.size w
  exact C1_hB
 have KK:∀ X,Row X w.heap.size (.cells #[.int .i64 (p:Int),.string (S (TT p))] 218)→Row X (w.heap.size+1) (.cells #[.string (S r.num),.string (S (r.den:Int))] 23)→(X.cell? ⟨w.heap.size,0,none⟩=some (.int .i64 (p:Int))∧X.cell? ⟨w.heap.size,1,none⟩=some (.string (S (TT p)))∧X.cell? ⟨w.heap.size+1,0,none⟩=some (.string (S r.num))∧X.cell? ⟨w.heap.size+1,1,none⟩=some (.string (S (r.den:Int)))):=fun X h1 h2=>⟨(Row.cells2 h1).2.1,(Row.cells2 h1).2.2.1,(Row.cells2 h2).2.1,(Row.cells2 h2).2.2.1⟩
 have M0:=fun W (h:Env W)=>mulS ia it N1 fa ft fn1 W h
 have M1:=fun W (h:Env W)=>mulS in1 it N2 fn1 ft fn W h
 have M2:=fun W=>emusts (S n1) W
 have M3:=fun W=>emusts (S n) W
 have M4:=fun W (h:Env W)=>divS in_ id_ N3 N4 fn fd D0 W h
 have M5:=fun W (h:Env W)=>rootS iq hroot fq W h
 have M6:=fun W=>emusts (S m) W
 unfold StrOk at *
 unfold DivOk at M4
 clear ia id_ it fa fd ft fn1 fn fq fm N1 N2 N3 N4 in1 in_ iq im hroot D0 hq hr
 show Calls Tryz.prog 211 #[.agg #[.int .i64 (p:Int),.string (S (TT p))],.agg #[.string (S r.num),.string (S (r.den:Int))]] w _
 generalize S r.num=rn at *
 generalize S (r.den:Int)=rd at *
 generalize S (TT p)=st at *
 generalize S n1=sn1 at *
 generalize S n=sn at *
 generalize S q=sq at *
 generalize S z=sz at *
 go_enter Tryz.func211, Tryz.ntmps211
 go_wp2_with fail
 generalize ((w.alloc (.cells #[.int .i64 (p:Int),.string st] 218)).alloc (.cells #[.string rn,.string rd] 23))=W0 at *
 go_region_held3 (fun X=>X.cell? ⟨w.heap.size,0,none⟩=some (.int .i64 (p:Int))∧X.cell? ⟨w.heap.size,1,none⟩=some (.string st)∧X.cell? ⟨w.heap.size+1,0,none⟩=some (.string rn)∧X.cell? ⟨w.heap.size+1,1,none⟩=some (.string rd)) (first | exact KK _ C3_ra C3_rb) (first
   | (go_at_call 183; with_reducible refine (M0 _ (by first | exact he.below hB | exact he.below hB.drew | exact he.below (below_drewN hB _))).mono ?_;rintro e W ⟨rfl,h1⟩;(try replace h1:=below_of_drew h1);replace hB:=hB.trans (h1.mono hB.size);replace ra:=Row.below ra h1;replace rb:=Row.below rb h1)
   | (go_at_call 183; with_reducible refine (M1 _ (by first | exact he.below hB | exact he.below hB.drew | exact he.below (below_drewN hB _))).mono ?_;rintro e W ⟨rfl,h1⟩;(try replace h1:=below_of_drew h1);replace hB:=hB.trans (h1.mono hB.size);replace ra:=Row.below ra h1;replace rb:=Row.below rb h1)
   | (go_at_call 212; with_reducible refine (M2 _).mono ?_;rintro e W ⟨rfl,h1⟩;(try replace h1:=below_of_drew h1);replace hB:=hB.trans (h1.mono hB.size);replace ra:=Row.below ra h1;replace rb:=Row.below rb h1)
   | (go_at_call 212; with_reducible refine (M3 _).mono ?_;rintro e W ⟨rfl,h1⟩;(try replace h1:=below_of_drew h1);replace hB:=hB.trans (h1.mono hB.size);replace ra:=Row.below ra h1;replace rb:=Row.below rb h1))
 have sa:=Row.cells2 ra
 have sb:=Row.cells2 rb
 go_wp2_with fail
 refine (M4 _ (he.below hB)).mono ?_
 rintro e W1 ⟨rfl,h1⟩
 clear sa
 clear sb
 replace hB:=hB.trans (h1.mono hB.size)
 replace ra:=Row.below ra h1
 replace rb:=Row.below rb h1
 clear h1
 have sa:=Row.cells2 ra
 have sb:=Row.cells2 rb
 go_wp2_with fail
 refine (echeck_true _).mono ?_
 rintro e W2 ⟨rfl,h1⟩
 clear sa
 clear sb
 replace hB:=hB.trans (h1.mono hB.size)
 replace ra:=Row.below ra h1
 replace rb:=Row.below rb h1
 clear h1
 have sa:=Row.cells2 ra
 have sb:=Row.cells2 rb
 go_wp2_with fail
 refine (M5 _ (he.below hB)).mono ?_
 rintro e W3 ⟨rfl,h1⟩
 clear sa
 clear sb
 replace hB:=hB.trans (h1.mono hB.size)
 replace ra:=Row.below ra h1
 replace rb:=Row.below rb h1
 clear h1
 have sa:=Row.cells2 ra
 have sb:=Row.cells2 rb
 go_wp2_with fail
 refine (M6 _).mono ?_
 rintro e W4 ⟨rfl,h1⟩
 clear sa
 clear sb
 replace hB:=hB.trans (h1.mono hB.size)
 replace ra:=Row.below ra h1
 replace rb:=Row.below rb h1
 clear h1
 have sa:=Row.cells2 ra
 have sb:=Row.cells2 rb
 go_wp2
 go_ret2
 exact ⟨false,⟨fun h=>(by cases h),fun h=>absurd h X.out⟩,rfl,hB⟩
theorem eroot_exact {j:Nat} (p:Nat) (r:Rat) (m:Int) (hr:QDig j r) (hp:p≤30) (hjp:j+p+p≤200) (hm:IsRootI (rootQ r (TT p)) m) (hx:r.num * TT p * TT p % (r.den:Int)=0) (hs:m * m=rootQ r (TT p)) (w:World) (he:Env w) :
  Calls Tryz.prog 211 #[.agg #[.int .i64 (p:Int),.string (S (TT p))],Q r] w (GrootOk r (TT p) m w):=by
 have hq:=hr.mono (show j≤200 by omega)
 have ia:=is_S r.num
 have id_:=is_S (r.den:Int)
 have it:=is_S (TT p)
 have fa:Fits r.num:=hq.1
 have fd:Fits (r.den:Int):=hq.2
 have ft:Fits (TT p):=(TT_dig p).fits (by omega)
 obtain ⟨n1,hn1⟩:∃ n,n=r.num * TT p:=⟨_,rfl⟩
 obtain ⟨n,hn⟩:∃ n,n=n1 * TT p:=⟨_,rfl⟩
 have dn1:Dig (j+p) n1:=by rw [hn1];exact TT_mul_dig hr.1
 have dn:Dig (j+p+p) n:=by rw [hn];exact TT_mul_dig dn1
 have fn1:=dn1.fits (by omega)
 have fn:=dn.fits (by omega)
 obtain ⟨q,hqe⟩:∃ q,q=n / (r.den:Int):=⟨_,rfl⟩
 obtain ⟨z,hz⟩:∃ z,z=n % (r.den:Int):=⟨_,rfl⟩
 have hQ:rootQ r (TT p)=q:=by unfold rootQ;rw [hqe,hn,hn1]
 have fq:Fits q:=by rw [hqe];exact (dn.ediv _).fits (by omega)
 rw [hQ] at hm
 have hroot:=Lib.hid (isRoot_int hm)
 have lm:=root_le hm
 have fm:Fits m:=(Fits.dig fq).of_le (by omega)
 have N1:=Lib.hid hn1.symm
 have N2:=Lib.hid hn.symm
 have N3:=Lib.hid hqe.symm
 have N4:=Lib.hid hz.symm
 have d0:=den_pos r
 have D0:Hid ((r.den:Int)≠0):=Lib.hid (by omega)
 have in1:=is_S n1
 have in_:=is_S n
 have iq:=is_S q
 have im:=is_S m
 have hzr:z=r.num * TT p * TT p % (r.den:Int):=by rw [hz,hn,hn1]
 have zz:((S z).toList == [48])=true:=S_eq0 (by rw [hzr];exact hx)
 have X:Hid (ExactR r (TT p) m):=Lib.hid ⟨hx,by rw [hQ];rw [hQ] at hs;exact hs⟩
 rw [hQ] at hs
 have MM:=Lib.hid hs
 clear hs hx
 clear hn1 hn hqe hz hzr dn1 dn hQ hm lm d0
 obtain ⟨ra,rb,hB⟩:Row ((w.alloc (.cells #[.int .i64 (p:Int),.string (S (TT p))] 218)).alloc (.cells #[.string (S r.num),.string (S (r.den:Int))] 23)) w.heap.size (.cells #[.int .i64 (p:Int),.string (S (TT p))] 218)∧Row ((w.alloc (.cells #[.int .i64 (p:Int),.string (S (TT p))] 218)).alloc (.cells #[.string (S r.num),.string (S (r.den:Int))] 23)) (w.heap.size+1) (.cells #[.string (S r.num),.string (S (r.den:Int))] 23)∧Below w.heap.size w ((w.alloc (.cells #[.int .i64 (p:Int),.string (S (TT p))] 218)).alloc (.cells #[.string (S r.num),.string (S (r.den:Int))] 23)):=by
  refine ⟨C2,C2,?_⟩
  have hB:=Below.refl w.heap.size w
  exact C1_hB
 have KK:∀ X,Row X w.heap.size (.cells #[.int .i64 (p:Int),.string (S (TT p))] 218)→Row X (w.heap.size+1) (.cells #[.string (S r.num),.string (S (r.den:Int))] 23)→(X.cell? ⟨w.heap.size,0,none⟩=some (.int .i64 (p:Int))∧X.cell? ⟨w.heap.size,1,none⟩=some (.string (S (TT p)))∧X.cell? ⟨w.heap.size+1,0,none⟩=some (.string (S r.num))∧X.cell? ⟨w.heap.size+1,1,none⟩=some (.string (S (r.den:Int)))):=fun X h1 h2=>⟨(Row.cells2 h1).2.1,(Row.cells2 h1).2.2.1,(Row.cells2 h2).2.1,(Row.cells2 h2).2.2.1⟩
 have M0:=fun W (h:Env W)=>mulS ia it N1 fa ft fn1 W h
 have M1:=fun W (h:Env W)=>mulS in1 it N2 fn1 ft fn W h
 have M2:=fun W=>emusts (S n1) W
 have M3:=fun W=>emusts (S n) W
 have M4:=fun W (h:Env W)=>divS in_ id_ N3 N4 fn fd D0 W h
 have M5:=fun W (h:Env W)=>rootS iq hroot fq W h
 have M6:=fun W=>emusts (S m) W
 have M7:=fun W (h:Env W)=>mulS im im MM fm fm fq W h
 have M8:=fun W=>emusts (S q) W
 unfold StrOk at *
 unfold DivOk at M4
 clear ia id_ it fa fd ft fn1 fn fq fm N1 N2 N3 N4 in1 in_ iq im hroot D0 hq hr MM
 show Calls Tryz.prog 211 #[.agg #[.int .i64 (p:Int),.string (S (TT p))],.agg #[.string (S r.num),.string (S (r.den:Int))]] w _
 generalize S r.num=rn at *
 generalize S (r.den:Int)=rd at *
 generalize S (TT p)=st at *
 generalize S n1=sn1 at *
 generalize S n=sn at *
 generalize S q=sq at *
 generalize S z=sz at *
 go_enter Tryz.func211, Tryz.ntmps211
 go_wp2_with fail
 generalize ((w.alloc (.cells #[.int .i64 (p:Int),.string st] 218)).alloc (.cells #[.string rn,.string rd] 23))=W0 at *
 go_region_held3 (fun X=>X.cell? ⟨w.heap.size,0,none⟩=some (.int .i64 (p:Int))∧X.cell? ⟨w.heap.size,1,none⟩=some (.string st)∧X.cell? ⟨w.heap.size+1,0,none⟩=some (.string rn)∧X.cell? ⟨w.heap.size+1,1,none⟩=some (.string rd)) (first | exact KK _ C3_ra C3_rb) (first
   | (go_at_call 183; with_reducible refine (M0 _ (by first | exact he.below hB | exact he.below hB.drew | exact he.below (below_drewN hB _))).mono ?_;rintro e W ⟨rfl,h1⟩;(try replace h1:=below_of_drew h1);replace hB:=hB.trans (h1.mono hB.size);replace ra:=Row.below ra h1;replace rb:=Row.below rb h1)
   | (go_at_call 183; with_reducible refine (M1 _ (by first | exact he.below hB | exact he.below hB.drew | exact he.below (below_drewN hB _))).mono ?_;rintro e W ⟨rfl,h1⟩;(try replace h1:=below_of_drew h1);replace hB:=hB.trans (h1.mono hB.size);replace ra:=Row.below ra h1;replace rb:=Row.below rb h1)
   | (go_at_call 212; with_reducible refine (M2 _).mono ?_;rintro e W ⟨rfl,h1⟩;(try replace h1:=below_of_drew h1);replace hB:=hB.trans (h1.mono hB.size);replace ra:=Row.below ra h1;replace rb:=Row.below rb h1)
   | (go_at_call 212; with_reducible refine (M3 _).mono ?_;rintro e W ⟨rfl,h1⟩;(try replace h1:=below_of_drew h1);replace hB:=hB.trans (h1.mono hB.size);replace ra:=Row.below ra h1;replace rb:=Row.below rb h1))
 have sa:=Row.cells2 ra
 have sb:=Row.cells2 rb
 go_wp2_with fail
 refine (M4 _ (he.below hB)).mono ?_
 rintro e W1 ⟨rfl,h1⟩
 clear sa
 clear sb
 replace hB:=hB.trans (h1.mono hB.size)
 replace ra:=Row.below ra h1
 replace rb:=Row.below rb h1
 clear h1
 have sa:=Row.cells2 ra
 have sb:=Row.cells2 rb
 go_wp2_with fail
 refine (echeck_true _).mono ?_
 rintro e W2 ⟨rfl,h1⟩
 clear sa
 clear sb
 replace hB:=hB.trans (h1.mono hB.size)
 replace ra:=Row.below ra h1
 replace rb:=Row.below rb h1
 clear h1
 have sa:=Row.cells2 ra
 have sb:=Row.cells2 rb
 go_wp2_with fail
 refine (M5 _ (he.below hB)).mono ?_
 rintro e W3 ⟨rfl,h1⟩
 clear sa
 clear sb
 replace hB:=hB.trans (h1.mono hB.size)
 replace ra:=Row.below ra h1
 replace rb:=Row.below rb h1
 clear h1
 have sa:=Row.cells2 ra
 have sb:=Row.cells2 rb
 go_wp2_with fail
 refine (M6 _).mono ?_
 rintro e W4 ⟨rfl,h1⟩
 clear sa
 clear sb
 replace hB:=hB.trans (h1.mono hB.size)
 replace ra:=Row.below ra h1
 replace rb:=Row.below rb h1
 clear h1
 have sa:=Row.cells2 ra
 have sb:=Row.cells2 rb
 go_wp2_with fail
 refine (M7 _ (he.below hB)).mono ?_
 rintro e W5 ⟨rfl,h1⟩
 clear sa
 clear sb
 replace hB:=hB.trans (h1.mono hB.size)
 replace ra:=Row.below ra h1
 replace rb:=Row.below rb h1
 clear h1
 have sa:=Row.cells2 ra
 have sb:=Row.cells2 rb
 go_wp2_with fail
 refine (M8 _).mono ?_
 rintro e W6 ⟨rfl,h1⟩
 clear sa
 clear sb
 replace hB:=hB.trans (h1.mono hB.size)
 replace ra:=Row.below ra h1
 replace rb:=Row.below rb h1
 clear h1
 have sa:=Row.cells2 ra
 have sb:=Row.cells2 rb
 go_wp2
 go_ret2
 exact ⟨true,⟨(fun _=>X.out),(fun _=>rfl)⟩,rfl,hB⟩
theorem eroot_less {j:Nat} (p:Nat) (r:Rat) (m:Int) (hr:QDig j r) (hp:p≤30) (hjp:j+p+p≤200) (hm:IsRootI (rootQ r (TT p)) m) (hx:r.num * TT p * TT p % (r.den:Int)=0) (hs:¬ m * m=rootQ r (TT p)) (w:World) (he:Env w) :
  Calls Tryz.prog 211 #[.agg #[.int .i64 (p:Int),.string (S (TT p))],Q r] w (GrootOk r (TT p) m w):=by
 have hq:=hr.mono (show j≤200 by omega)
 have ia:=is_S r.num
 have id_:=is_S (r.den:Int)
 have it:=is_S (TT p)
 have fa:Fits r.num:=hq.1
 have fd:Fits (r.den:Int):=hq.2
 have ft:Fits (TT p):=(TT_dig p).fits (by omega)
 obtain ⟨n1,hn1⟩:∃ n,n=r.num * TT p:=⟨_,rfl⟩
 obtain ⟨n,hn⟩:∃ n,n=n1 * TT p:=⟨_,rfl⟩
 have dn1:Dig (j+p) n1:=by rw [hn1];exact TT_mul_dig hr.1
 have dn:Dig (j+p+p) n:=by rw [hn];exact TT_mul_dig dn1
 have fn1:=dn1.fits (by omega)
 have fn:=dn.fits (by omega)
 obtain ⟨q,hqe⟩:∃ q,q=n / (r.den:Int):=⟨_,rfl⟩
 obtain ⟨z,hz⟩:∃ z,z=n % (r.den:Int):=⟨_,rfl⟩
 have hQ:rootQ r (TT p)=q:=by unfold rootQ;rw [hqe,hn,hn1]
 have fq:Fits q:=by rw [hqe];exact (dn.ediv _).fits (by omega)
 rw [hQ] at hm
 have hroot:=Lib.hid (isRoot_int hm)
 have lm:=root_le hm
 have fm:Fits m:=(Fits.dig fq).of_le (by omega)
 have N1:=Lib.hid hn1.symm
 have N2:=Lib.hid hn.symm
 have N3:=Lib.hid hqe.symm
 have N4:=Lib.hid hz.symm
 have d0:=den_pos r
 have D0:Hid ((r.den:Int)≠0):=Lib.hid (by omega)
 have in1:=is_S n1
 have in_:=is_S n
 have iq:=is_S q
 have im:=is_S m
 have hzr:z=r.num * TT p * TT p % (r.den:Int):=by rw [hz,hn,hn1]
 have zz:((S z).toList == [48])=true:=S_eq0 (by rw [hzr];exact hx)
 have X:Hid ¬ ExactR r (TT p) m:=Lib.hid (fun h=>hs h.2)
 rw [hQ] at hs
 obtain ⟨mm,hmm⟩:∃ x,x=m * m:=⟨_,rfl⟩
 have fmm:Fits mm:=by have:=hm.2.1;rw [hmm];exact (Fits.dig fq).of_le (by have:=Int.mul_nonneg hm.1 hm.1;omega)
 have ne:((S mm).toList == (S q).toList)=false:=S_ne (by rw [hmm];exact hs)
 have MM:=Lib.hid hmm.symm
 clear hs hx hmm
 clear hn1 hn hqe hz hzr dn1 dn hQ hm lm d0
 obtain ⟨ra,rb,hB⟩:Row ((w.alloc (.cells #[.int .i64 (p:Int),.string (S (TT p))] 218)).alloc (.cells #[.string (S r.num),.string (S (r.den:Int))] 23)) w.heap.size (.cells #[.int .i64 (p:Int),.string (S (TT p))] 218)∧Row ((w.alloc (.cells #[.int .i64 (p:Int),.string (S (TT p))] 218)).alloc (.cells #[.string (S r.num),.string (S (r.den:Int))] 23)) (w.heap.size+1) (.cells #[.string (S r.num),.string (S (r.den:Int))] 23)∧Below w.heap.size w ((w.alloc (.cells #[.int .i64 (p:Int),.string (S (TT p))] 218)).alloc (.cells #[.string (S r.num),.string (S (r.den:Int))] 23)):=by
  refine ⟨C2,C2,?_⟩
  have hB:=Below.refl w.heap.size w
  exact C1_hB
 have KK:∀ X,Row X w.heap.size (.cells #[.int .i64 (p:Int),.string (S (TT p))] 218)→Row X (w.heap.size+1) (.cells #[.string (S r.num),.string (S (r.den:Int))] 23)→(X.cell? ⟨w.heap.size,0,none⟩=some (.int .i64 (p:Int))∧X.cell? ⟨w.heap.size,1,none⟩=some (.string (S (TT p)))∧X.cell? ⟨w.heap.size+1,0,none⟩=some (.string (S r.num))∧X.cell? ⟨w.heap.size+1,1,none⟩=some (.string (S (r.den:Int)))):=fun X h1 h2=>⟨(Row.cells2 h1).2.1,(Row.cells2 h1).2.2.1,(Row.cells2 h2).2.1,(Row.cells2 h2).2.2.1⟩
 have M0:=fun W (h:Env W)=>mulS ia it N1 fa ft fn1 W h
 have M1:=fun W (h:Env W)=>mulS in1 it N2 fn1 ft fn W h
 have M2:=fun W=>emusts (S n1) W
 have M3:=fun W=>emusts (S n) W
 have M4:=fun W (h:Env W)=>divS in_ id_ N3 N4 fn fd D0 W h
 have M5:=fun W (h:Env W)=>rootS iq hroot fq W h
 have M6:=fun W=>emusts (S m) W
 have M7:=fun W (h:Env W)=>mulS im im MM fm fm fmm W h
 have M8:=fun W=>emusts (S mm) W
 unfold StrOk at *
 unfold DivOk at M4
 clear ia id_ it fa fd ft fn1 fn fq fm N1 N2 N3 N4 in1 in_ iq im hroot D0 hq hr MM fmm
 show Calls Tryz.prog 211 #[.agg #[.int .i64 (p:Int),.string (S (TT p))],.agg #[.string (S r.num),.string (S (r.den:Int))]] w _
 generalize S r.num=rn at *
 generalize S (r.den:Int)=rd at *
 generalize S (TT p)=st at *
 generalize S n1=sn1 at *
 generalize S n=sn at *
 generalize S q=sq at *
 generalize S z=sz at *
 generalize S mm=smm at *
 go_enter Tryz.func211, Tryz.ntmps211
 go_wp2_with fail
 generalize ((w.alloc (.cells #[.int .i64 (p:Int),.string st] 218)).alloc (.cells #[.string rn,.string rd] 23))=W0 at *
 go_region_held3 (fun X=>X.cell? ⟨w.heap.size,0,none⟩=some (.int .i64 (p:Int))∧X.cell? ⟨w.heap.size,1,none⟩=some (.string st)∧X.cell? ⟨w.heap.size+1,0,none⟩=some (.string rn)∧X.cell? ⟨w.heap.size+1,1,none⟩=some (.string rd)) (first | exact KK _ C3_ra C3_rb) (first
   | (go_at_call 183; with_reducible refine (M0 _ (by first | exact he.below hB | exact he.below hB.drew | exact he.below (below_drewN hB _))).mono ?_;rintro e W ⟨rfl,h1⟩;(try replace h1:=below_of_drew h1);replace hB:=hB.trans (h1.mono hB.size);replace ra:=Row.below ra h1;replace rb:=Row.below rb h1)
   | (go_at_call 183; with_reducible refine (M1 _ (by first | exact he.below hB | exact he.below hB.drew | exact he.below (below_drewN hB _))).mono ?_;rintro e W ⟨rfl,h1⟩;(try replace h1:=below_of_drew h1);replace hB:=hB.trans (h1.mono hB.size);replace ra:=Row.below ra h1;replace rb:=Row.below rb h1)
   | (go_at_call 212; with_reducible refine (M2 _).mono ?_;rintro e W ⟨rfl,h1⟩;(try replace h1:=below_of_drew h1);replace hB:=hB.trans (h1.mono hB.size);replace ra:=Row.below ra h1;replace rb:=Row.below rb h1)
   | (go_at_call 212; with_reducible refine (M3 _).mono ?_;rintro e W ⟨rfl,h1⟩;(try replace h1:=below_of_drew h1);replace hB:=hB.trans (h1.mono hB.size);replace ra:=Row.below ra h1;replace rb:=Row.below rb h1))
 have sa:=Row.cells2 ra
 have sb:=Row.cells2 rb
 go_wp2_with fail
 refine (M4 _ (he.below hB)).mono ?_
 rintro e W1 ⟨rfl,h1⟩
 clear sa
 clear sb
 replace hB:=hB.trans (h1.mono hB.size)
 replace ra:=Row.below ra h1
 replace rb:=Row.below rb h1
 clear h1
 have sa:=Row.cells2 ra
 have sb:=Row.cells2 rb
 go_wp2_with fail
 refine (echeck_true _).mono ?_
 rintro e W2 ⟨rfl,h1⟩
 clear sa
 clear sb
 replace hB:=hB.trans (h1.mono hB.size)
 replace ra:=Row.below ra h1
 replace rb:=Row.below rb h1
 clear h1
 have sa:=Row.cells2 ra
 have sb:=Row.cells2 rb
 go_wp2_with fail
 refine (M5 _ (he.below hB)).mono ?_
 rintro e W3 ⟨rfl,h1⟩
 clear sa
 clear sb
 replace hB:=hB.trans (h1.mono hB.size)
 replace ra:=Row.below ra h1
 replace rb:=Row.below rb h1
 clear h1
 have sa:=Row.cells2 ra
 have sb:=Row.cells2 rb
 go_wp2_with fail
 refine (M6 _).mono ?_
 rintro e W4 ⟨rfl,h1⟩
 clear sa
 clear sb
 replace hB:=hB.trans (h1.mono hB.size)
 replace ra:=Row.below ra h1
 replace rb:=Row.below rb h1
 clear h1
 have sa:=Row.cells2 ra
 have sb:=Row.cells2 rb
 go_wp2_with fail
 refine (M7 _ (he.below hB)).mono ?_
 rintro e W5 ⟨rfl,h1⟩
 clear sa
 clear sb
 replace hB:=hB.trans (h1.mono hB.size)
 replace ra:=Row.below ra h1
 replace rb:=Row.below rb h1
 clear h1
 have sa:=Row.cells2 ra
 have sb:=Row.cells2 rb
 go_wp2_with fail
 refine (M8 _).mono ?_
 rintro e W6 ⟨rfl,h1⟩
 clear sa
 clear sb
 replace hB:=hB.trans (h1.mono hB.size)
 replace ra:=Row.below ra h1
 replace rb:=Row.below rb h1
 clear h1
 have sa:=Row.cells2 ra
 have sb:=Row.cells2 rb
 go_wp2
 go_ret2
 exact ⟨false,⟨fun h=>(by cases h),fun h=>absurd h X.out⟩,rfl,hB⟩
theorem eroot {j:Nat} (p:Nat) (r:Rat) (m:Int) (hr:QDig j r) (hp:p≤30) (hjp:j+p+p≤200) (hm:IsRootI (rootQ r (TT p)) m) (w:World) (he:Env w) :
  Calls Tryz.prog 211 #[.agg #[.int .i64 (p:Int),.string (S (TT p))],Q r] w (GrootOk r (TT p) m w):=by
 by_cases hx:r.num * TT p * TT p % (r.den:Int)=0
 ·by_cases hs:m * m=rootQ r (TT p)
  ·exact eroot_exact p r m hr hp hjp hm hx hs w he
  ·exact eroot_less p r m hr hp hjp hm hx hs w he
 ·exact eroot_rest p r m hr hp hjp hm hx w he
theorem esqrt1_exact (ba bp j p:Nat) (a:Iv) (ml mh:Int) (da:IDig j a) (hp:p≤30) (hjp:j+p+p+1≤200) (h0:0≤a.lo) (hml:IsRootI (rootQ a.lo (TT p)) ml) (hmh:IsRootI (rootQ a.hi (TT p)) mh) (hx:ExactR a.hi (TT p) mh) (w:World) (he:Env w) (ra:IvRow w ba a) (rp:Row w bp (.cells #[.int .i64 (p:Int)] 3)) :
  Calls Tryz.prog 207 #[.pointer (some ⟨bp,0,none⟩),.pointer (some ⟨ba,0,none⟩)] w (ivIs (SqrtI a (TT p)) w):=by
 have hq1:=da.1.mono (show j≤200 by omega)
 have g1:0≤cmpQ a.lo 0:=cmpQ_ge.2 h0
 have MZ:=fun W=>ezero W
 have MC:=fun W (h:Env W)=>qcompare a.lo 0 hq1 ⟨dig_small (by decide) (by decide),dig_small (by decide) (by decide)⟩ W h
 have MT:=fun W=>echeck_true W
 have MG:=fun W=>egrid p hp W
 have RL:=fun W (h:Env W)=>eroot p a.lo ml da.1 hp (by omega) hml W h
 have RH:=fun W (h:Env W)=>eroot p a.hi mh da.2 hp (by omega) hmh W h
 have ft:Fits (TT p):=(TT_dig p).fits (by omega)
 have hT:=TT_pos p
 have it:=is_S (TT p)
 have dl:Dig (j+p+p) (rootQ a.lo (TT p)):=rootQ_dig da.1
 have dh:Dig (j+p+p) (rootQ a.hi (TT p)):=rootQ_dig da.2
 have ll:=root_le hml
 have lh:=root_le hmh
 have dml:Dig (j+p+p) ml:=dl.of_le (by omega)
 have dmh:Dig (j+p+p) mh:=dh.of_le (by omega)
 have fml:=dml.fits (by omega)
 have fmh:=dmh.fits (by omega)
 have il:=is_S ml
 have ih:=is_S mh
 have K0:=fun W (h:Env W)=>qmake il it fml ft (by omega) W h
 have K1:=fun W (h:Env W)=>qmake ih it fmh ft (by omega) W h
 have SQ:Hid (SqrtI a (TT p) ⟨Rat.divInt ml (TT p),Rat.divInt mh (TT p)⟩):=Lib.hid ⟨⟨ml,hml,rfl⟩,⟨mh,hmh,.inl ⟨hx,rfl⟩⟩⟩
 obtain ⟨x,hxe⟩:∃ x,x=Rat.divInt ml (TT p):=⟨_,rfl⟩
 obtain ⟨y,hye⟩:∃ y,y=Rat.divInt mh (TT p):=⟨_,rfl⟩
 rw [← hxe] at K0
 rw [← hye] at K1
 have SQ2:Hid (SqrtI a (TT p) ⟨x,y⟩):=by rw [hxe,hye];exact SQ
 have MX:=fun W=>emust x W
 have MY:=fun W=>emust y W
 unfold QOk Q at K0 K1
 unfold QIs Q at MX MY
 unfold Q at RL RH MZ MC
 unfold CmpOk at MC
 unfold UnitOk at MT
 have XH:=Lib.hid hx
 clear SQ hxe hye hq1 h0 hml hmh da ft hT it dl dh ll lh dml dmh fml fmh il ih hx hjp
 generalize cmpQ a.lo 0=g at *
 have g2:decide (0≤g)=true:=decide_eq_true g1
 have sa:=ra.1
 have sp:=rp.1
 unfold IvRow at *
 have KA:∀ X,Row X ba (.cells #[.string (S a.lo.num),.string (S (a.lo.den:Int)),.string (S a.hi.num),.string (S (a.hi.den:Int))] 30)→(X.cell? ⟨ba,0,none⟩=some (.string (S a.lo.num))∧X.cell? ⟨ba,1,none⟩=some (.string (S (a.lo.den:Int)))∧X.cell? ⟨ba,2,none⟩=some (.string (S a.hi.num))∧X.cell? ⟨ba,3,none⟩=some (.string (S (a.hi.den:Int)))):=fun X h=>IvRow.facts h
 have hB:Below w.heap.size w w:=Below.refl _ _
 clear sa sp
 have sa:=Row.cells4 ra
 have sp:=Row.cells1 rp
 generalize S (0:Rat).num=zn at *
 generalize S ((0:Rat).den:Int)=zd at *
 go_enter Tryz.func207, Tryz.ntmps207
 go_wp2_with fail
 have sB:=hB.size
 refine world_cut (fun X=>Below w.heap.size w X∧Row X ba (.cells #[.string (S a.lo.num),.string (S (a.lo.den:Int)),.string (S a.hi.num),.string (S (a.hi.den:Int))] 30)∧Row X bp (.cells #[.int .i64 (p:Int)] 3)∧Row X w.heap.size (.cells #[.string ⟨#[]⟩,.string ⟨#[]⟩,.string ⟨#[]⟩,.string ⟨#[]⟩] 30)) ⟨C1_hB,C3_ra,C3_rp,C2⟩ ?_
 clear ra
 clear sa
 clear rp
 clear sp
 clear hB sB
 rintro V1 ⟨hB,ra,rp,ro⟩
 have sa:=Row.cells4 ra
 have sp:=Row.cells1 rp
 have so:=Row.cells4 ro
 refine (MG _).mono ?_
 rintro e W2 ⟨rfl,h1⟩
 clear sa
 clear sp
 clear so
 replace hB:=hB.trans (h1.mono hB.size)
 replace ra:=Row.below ra h1
 replace rp:=Row.below rp h1
 replace ro:=Row.below ro h1
 clear h1
 have sa:=Row.cells4 ra
 have sp:=Row.cells1 rp
 have so:=Row.cells4 ro
 have wlt:=ro.1
 go_wp2_with fail
 have sB:=hB.size
 refine wp_cut (fun X=>Below w.heap.size w X∧Row X ba (.cells #[.string (S a.lo.num),.string (S (a.lo.den:Int)),.string (S a.hi.num),.string (S (a.hi.den:Int))] 30)∧Row X bp (.cells #[.int .i64 (p:Int)] 3)∧Row X w.heap.size (.cells #[.string ⟨#[]⟩,.string ⟨#[]⟩,.string ⟨#[]⟩,.string ⟨#[]⟩] 30)∧Row X W2.heap.size (.cells #[.int .i64 (p:Int),.string (S (TT p))] 218)) ⟨C1_hB,C3_ra,C3_rp,C3_ro,C2⟩ ?_
 clear ra
 clear sa
 clear rp
 clear sp
 clear ro
 clear so
 clear hB sB
 rintro V3 ⟨hB,ra,rp,ro,rg⟩
 have sa:=Row.cells4 ra
 have sp:=Row.cells1 rp
 have so:=Row.cells4 ro
 have sg:=Row.cells2 rg
 go_region_held3 (fun X=>X.cell? ⟨ba,0,none⟩=some (.string (S a.lo.num))∧X.cell? ⟨ba,1,none⟩=some (.string (S (a.lo.den:Int)))∧X.cell? ⟨ba,2,none⟩=some (.string (S a.hi.num))∧X.cell? ⟨ba,3,none⟩=some (.string (S (a.hi.den:Int)))) (first | exact KA _ C3_ra) (first
   | (go_at_call 210; with_reducible refine (MZ _).mono ?_;rintro e W ⟨rfl,h1⟩;(try replace h1:=below_of_drew h1);replace hB:=hB.trans (h1.mono hB.size);replace ra:=Row.below ra h1;replace rp:=Row.below rp h1;replace ro:=Row.below ro h1;replace rg:=Row.below rg h1)
   | (go_at_call 53; with_reducible refine (MC _ (by first | exact he.below hB | exact he.below hB.drew | exact he.below (below_drewN hB _))).mono ?_;rintro e W ⟨rfl,h1⟩;(try replace h1:=below_of_drew h1);replace hB:=hB.trans (h1.mono hB.size);replace ra:=Row.below ra h1;replace rp:=Row.below rp h1;replace ro:=Row.below ro h1;replace rg:=Row.below rg h1)
   | (go_at_call 209; with_reducible refine (MT _).mono ?_;rintro e W ⟨rfl,h1⟩;(try replace h1:=below_of_drew h1);replace hB:=hB.trans (h1.mono hB.size);replace ra:=Row.below ra h1;replace rp:=Row.below rp h1;replace ro:=Row.below ro h1;replace rg:=Row.below rg h1))
 have sa:=Row.cells4 ra
 have sp:=Row.cells1 rp
 have so:=Row.cells4 ro
 have sg:=Row.cells2 rg
 go_wp2_with fail
 refine (RL _ (he.below hB)).mono ?_
 rintro e W4 ⟨b1,_,rfl,h1⟩
 clear sa
 clear sp
 clear so
 clear sg
 replace hB:=hB.trans (h1.mono hB.size)
 replace ra:=Row.below ra h1
 replace rp:=Row.below rp h1
 replace ro:=Row.below ro h1
 replace rg:=Row.below rg h1
 clear h1
 have sa:=Row.cells4 ra
 have sp:=Row.cells1 rp
 have so:=Row.cells4 ro
 have sg:=Row.cells2 rg
 go_wp2_with fail
 refine (RH _ (he.below hB)).mono ?_
 rintro e W5 ⟨b2,hb2,rfl,h1⟩
 clear sa
 clear sp
 clear so
 clear sg
 replace hB:=hB.trans (h1.mono hB.size)
 replace ra:=Row.below ra h1
 replace rp:=Row.below rp h1
 replace ro:=Row.below ro h1
 replace rg:=Row.below rg h1
 clear h1
 have sa:=Row.cells4 ra
 have sp:=Row.cells1 rp
 have so:=Row.cells4 ro
 have sg:=Row.cells2 rg
 obtain rfl:b2=true:=hb2.2 XH.out
 clear hb2
 have KG:∀ X,Row X W2.heap.size (.cells #[.int .i64 (p:Int),.string (S (TT p))] 218)→(X.cell? ⟨W2.heap.size,0,none⟩=some (.int .i64 (p:Int))∧X.cell? ⟨W2.heap.size,1,none⟩=some (.string (S (TT p)))):=fun X h=>⟨(Row.cells2 h).2.1,(Row.cells2 h).2.2.1⟩
 clear RL RH MZ MC MT MG KA
 go_wp2_with fail
 generalize hgtl:S ml=tl at *
 generalize hgtt:S (TT p)=tt at *
 generalize hgth:S mh=th at *
 generalize hgxn:S x.num=xn at *
 generalize hgxd:S (x.den:Int)=xd at *
 generalize hgyn:S y.num=yn at *
 generalize hgyd:S (y.den:Int)=yd at *
 have HG:=Lib.hid (And.intro hgxn (And.intro hgxd (And.intro hgyn hgyd)))
 clear hgtl hgtt hgth hgxn hgxd hgyn hgyd
 go_region_held3 (fun X=>X.cell? ⟨W2.heap.size,0,none⟩=some (.int .i64 (p:Int))∧X.cell? ⟨W2.heap.size,1,none⟩=some (.string tt)) (first | exact KG _ C3_rg) (first
   | (go_at_call 186; with_reducible refine (K0 _ (by first | exact he.below hB | exact he.below hB.drew | exact he.below (below_drewN hB _))).mono ?_;rintro e W ⟨rfl,h1⟩;(try replace h1:=below_of_drew h1);replace hB:=hB.trans (h1.mono hB.size);replace ra:=Row.below ra h1;replace rp:=Row.below rp h1;replace ro:=Row.below ro h1;replace rg:=Row.below rg h1;have so:=Row.cells4 ro)
   | (go_at_call 186; with_reducible refine (K1 _ (by first | exact he.below hB | exact he.below hB.drew | exact he.below (below_drewN hB _))).mono ?_;rintro e W ⟨rfl,h1⟩;(try replace h1:=below_of_drew h1);replace hB:=hB.trans (h1.mono hB.size);replace ra:=Row.below ra h1;replace rp:=Row.below rp h1;replace ro:=Row.below ro h1;replace rg:=Row.below rg h1;have so:=Row.cells4 ro)
   | (go_at_call 213; with_reducible refine (MX _).mono ?_;rintro e W ⟨rfl,h1⟩;(try replace h1:=below_of_drew h1);replace hB:=hB.trans (h1.mono hB.size);replace ra:=Row.below ra h1;replace rp:=Row.below rp h1;replace ro:=Row.below ro h1;replace rg:=Row.below rg h1;have so:=Row.cells4 ro)
   | (go_at_call 213; with_reducible refine (MY _).mono ?_;rintro e W ⟨rfl,h1⟩;(try replace h1:=below_of_drew h1);replace hB:=hB.trans (h1.mono hB.size);replace ra:=Row.below ra h1;replace rp:=Row.below rp h1;replace ro:=Row.below ro h1;replace rg:=Row.below rg h1;have so:=Row.cells4 ro))
 go_wp2
 have sB:=hB.size
 refine post_cut (fun X=>Below w.heap.size w X∧Row X w.heap.size (.cells #[.string xn,.string xd,.string yn,.string yd] 30)) ⟨C1_hB,C3_ro⟩ ?_
 clear ro
 clear so
 clear hB sB
 rintro V6 ⟨hB,ro⟩
 have so:=Row.cells4 ro
 refine bodyPost_ret (v := .agg #[.string xn,.string xd,.string yn,.string yd]) ?res rfl ⟨⟨x,y⟩,SQ2.out,by rw [← HG.out.1,← HG.out.2.1,← HG.out.2.2.1,← HG.out.2.2.2];rfl,hB⟩
 case res=>simp [results,Tryz.results207, go_sem,so]
theorem esqrt1_above (ba bp j p:Nat) (a:Iv) (ml mh:Int) (da:IDig j a) (hj0:0<j+p+p) (hp:p≤30) (hjp:j+p+p+1≤200) (h0:0≤a.lo) (hml:IsRootI (rootQ a.lo (TT p)) ml) (hmh:IsRootI (rootQ a.hi (TT p)) mh) (hx:¬ ExactR a.hi (TT p) mh) (w:World) (he:Env w) (ra:IvRow w ba a) (rp:Row w bp (.cells #[.int .i64 (p:Int)] 3)) :
  Calls Tryz.prog 207 #[.pointer (some ⟨bp,0,none⟩),.pointer (some ⟨ba,0,none⟩)] w (ivIs (SqrtI a (TT p)) w):=by
 have hq1:=da.1.mono (show j≤200 by omega)
 have g1:0≤cmpQ a.lo 0:=cmpQ_ge.2 h0
 have MZ:=fun W=>ezero W
 have MC:=fun W (h:Env W)=>qcompare a.lo 0 hq1 ⟨dig_small (by decide) (by decide),dig_small (by decide) (by decide)⟩ W h
 have MT:=fun W=>echeck_true W
 have MG:=fun W=>egrid p hp W
 have RL:=fun W (h:Env W)=>eroot p a.lo ml da.1 hp (by omega) hml W h
 have RH:=fun W (h:Env W)=>eroot p a.hi mh da.2 hp (by omega) hmh W h
 have ft:Fits (TT p):=(TT_dig p).fits (by omega)
 have hT:=TT_pos p
 have it:=is_S (TT p)
 have dl:Dig (j+p+p) (rootQ a.lo (TT p)):=rootQ_dig da.1
 have dh:Dig (j+p+p) (rootQ a.hi (TT p)):=rootQ_dig da.2
 have ll:=root_le hml
 have lh:=root_le hmh
 have dml:Dig (j+p+p) ml:=dl.of_le (by omega)
 have dmh:Dig (j+p+p) mh:=dh.of_le (by omega)
 have fml:=dml.fits (by omega)
 have fmh:=dmh.fits (by omega)
 have il:=is_S ml
 have ih:=is_S mh
 have f1:Fits 1:=fits_lit (by decide)
 have i1:Is ⟨#[49]⟩ 1:=is_lit (by decide) (by decide)
 obtain ⟨mk,hk⟩:∃ x,x=mh+1:=⟨_,rfl⟩
 have fmk:Fits mk:=by rw [hk];exact (dmh.add (dig_small (by decide) hj0)).fits (by omega)
 have ik:=is_S mk
 have KH:=Lib.hid hk.symm
 have MA:=fun W (h:Env W)=>addS ih i1 KH fmh f1 fmk W h
 have MS:=fun W=>emusts (S mk) W
 unfold StrOk at MA
 have K0:=fun W (h:Env W)=>qmake il it fml ft (by omega) W h
 have K1:=fun W (h:Env W)=>qmake ik it fmk ft (by omega) W h
 have SQ:Hid (SqrtI a (TT p) ⟨Rat.divInt ml (TT p),Rat.divInt mk (TT p)⟩):=Lib.hid ⟨⟨ml,hml,rfl⟩,⟨mh,hmh,.inr ⟨hx,by rw [hk]⟩⟩⟩
 obtain ⟨x,hxe⟩:∃ x,x=Rat.divInt ml (TT p):=⟨_,rfl⟩
 obtain ⟨y,hye⟩:∃ y,y=Rat.divInt mk (TT p):=⟨_,rfl⟩
 rw [← hxe] at K0
 rw [← hye] at K1
 have SQ2:Hid (SqrtI a (TT p) ⟨x,y⟩):=by rw [hxe,hye];exact SQ
 have MX:=fun W=>emust x W
 have MY:=fun W=>emust y W
 unfold QOk Q at K0 K1
 unfold QIs Q at MX MY
 unfold Q at RL RH MZ MC
 unfold CmpOk at MC
 unfold UnitOk at MT
 have XH:=Lib.hid hx
 clear SQ hxe hye hq1 h0 hml hmh da ft hT it dl dh ll lh dml dmh fml fmh il ih hx hjp f1 i1 hk fmk ik KH hj0
 generalize cmpQ a.lo 0=g at *
 have g2:decide (0≤g)=true:=decide_eq_true g1
 have sa:=ra.1
 have sp:=rp.1
 unfold IvRow at *
 have KA:∀ X,Row X ba (.cells #[.string (S a.lo.num),.string (S (a.lo.den:Int)),.string (S a.hi.num),.string (S (a.hi.den:Int))] 30)→(X.cell? ⟨ba,0,none⟩=some (.string (S a.lo.num))∧X.cell? ⟨ba,1,none⟩=some (.string (S (a.lo.den:Int)))∧X.cell? ⟨ba,2,none⟩=some (.string (S a.hi.num))∧X.cell? ⟨ba,3,none⟩=some (.string (S (a.hi.den:Int)))):=fun X h=>IvRow.facts h
 have hB:Below w.heap.size w w:=Below.refl _ _
 clear sa sp
 have sa:=Row.cells4 ra
 have sp:=Row.cells1 rp
 generalize S (0:Rat).num=zn at *
 generalize S ((0:Rat).den:Int)=zd at *
 go_enter Tryz.func207, Tryz.ntmps207
 go_wp2_with fail
 have sB:=hB.size
 refine world_cut (fun X=>Below w.heap.size w X∧Row X ba (.cells #[.string (S a.lo.num),.string (S (a.lo.den:Int)),.string (S a.hi.num),.string (S (a.hi.den:Int))] 30)∧Row X bp (.cells #[.int .i64 (p:Int)] 3)∧Row X w.heap.size (.cells #[.string ⟨#[]⟩,.string ⟨#[]⟩,.string ⟨#[]⟩,.string ⟨#[]⟩] 30)) ⟨C1_hB,C3_ra,C3_rp,C2⟩ ?_
 clear ra
 clear sa
 clear rp
 clear sp
 clear hB sB
 rintro V1 ⟨hB,ra,rp,ro⟩
 have sa:=Row.cells4 ra
 have sp:=Row.cells1 rp
 have so:=Row.cells4 ro
 refine (MG _).mono ?_
 rintro e W2 ⟨rfl,h1⟩
 clear sa
 clear sp
 clear so
 replace hB:=hB.trans (h1.mono hB.size)
 replace ra:=Row.below ra h1
 replace rp:=Row.below rp h1
 replace ro:=Row.below ro h1
 clear h1
 have sa:=Row.cells4 ra
 have sp:=Row.cells1 rp
 have so:=Row.cells4 ro
 have wlt:=ro.1
 go_wp2_with fail
 have sB:=hB.size
 refine wp_cut (fun X=>Below w.heap.size w X∧Row X ba (.cells #[.string (S a.lo.num),.string (S (a.lo.den:Int)),.string (S a.hi.num),.string (S (a.hi.den:Int))] 30)∧Row X bp (.cells #[.int .i64 (p:Int)] 3)∧Row X w.heap.size (.cells #[.string ⟨#[]⟩,.string ⟨#[]⟩,.string ⟨#[]⟩,.string ⟨#[]⟩] 30)∧Row X W2.heap.size (.cells #[.int .i64 (p:Int),.string (S (TT p))] 218)) ⟨C1_hB,C3_ra,C3_rp,C3_ro,C2⟩ ?_
 clear ra
 clear sa
 clear rp
 clear sp
 clear ro
 clear so
 clear hB sB
 rintro V3 ⟨hB,ra,rp,ro,rg⟩
 have sa:=Row.cells4 ra
 have sp:=Row.cells1 rp
 have so:=Row.cells4 ro
 have sg:=Row.cells2 rg
 go_region_held3 (fun X=>X.cell? ⟨ba,0,none⟩=some (.string (S a.lo.num))∧X.cell? ⟨ba,1,none⟩=some (.string (S (a.lo.den:Int)))∧X.cell? ⟨ba,2,none⟩=some (.string (S a.hi.num))∧X.cell? ⟨ba,3,none⟩=some (.string (S (a.hi.den:Int)))) (first | exact KA _ C3_ra) (first
   | (go_at_call 210; with_reducible refine (MZ _).mono ?_;rintro e W ⟨rfl,h1⟩;(try replace h1:=below_of_drew h1);replace hB:=hB.trans (h1.mono hB.size);replace ra:=Row.below ra h1;replace rp:=Row.below rp h1;replace ro:=Row.below ro h1;replace rg:=Row.below rg h1)
   | (go_at_call 53; with_reducible refine (MC _ (by first | exact he.below hB | exact he.below hB.drew | exact he.below (below_drewN hB _))).mono ?_;rintro e W ⟨rfl,h1⟩;(try replace h1:=below_of_drew h1);replace hB:=hB.trans (h1.mono hB.size);replace ra:=Row.below ra h1;replace rp:=Row.below rp h1;replace ro:=Row.below ro h1;replace rg:=Row.below rg h1)
   | (go_at_call 209; with_reducible refine (MT _).mono ?_;rintro e W ⟨rfl,h1⟩;(try replace h1:=below_of_drew h1);replace hB:=hB.trans (h1.mono hB.size);replace ra:=Row.below ra h1;replace rp:=Row.below rp h1;replace ro:=Row.below ro h1;replace rg:=Row.below rg h1))
 have sa:=Row.cells4 ra
 have sp:=Row.cells1 rp
 have so:=Row.cells4 ro
 have sg:=Row.cells2 rg
 go_wp2_with fail
 refine (RL _ (he.below hB)).mono ?_
 rintro e W4 ⟨b1,_,rfl,h1⟩
 clear sa
 clear sp
 clear so
 clear sg
 replace hB:=hB.trans (h1.mono hB.size)
 replace ra:=Row.below ra h1
 replace rp:=Row.below rp h1
 replace ro:=Row.below ro h1
 replace rg:=Row.below rg h1
 clear h1
 have sa:=Row.cells4 ra
 have sp:=Row.cells1 rp
 have so:=Row.cells4 ro
 have sg:=Row.cells2 rg
 go_wp2_with fail
 refine (RH _ (he.below hB)).mono ?_
 rintro e W5 ⟨b2,hb2,rfl,h1⟩
 clear sa
 clear sp
 clear so
 clear sg
 replace hB:=hB.trans (h1.mono hB.size)
 replace ra:=Row.below ra h1
 replace rp:=Row.below rp h1
 replace ro:=Row.below ro h1
 replace rg:=Row.below rg h1
 clear h1
 have sa:=Row.cells4 ra
 have sp:=Row.cells1 rp
 have so:=Row.cells4 ro
 have sg:=Row.cells2 rg
 obtain rfl:b2=false:=by cases b2 <;> first | rfl | exact absurd (hb2.1 rfl) XH.out
 clear hb2
 go_wp2_with fail
 refine (MA _ (he.below hB)).mono ?_
 rintro e W6 ⟨rfl,h1⟩
 clear sa
 clear sp
 clear so
 clear sg
 replace hB:=hB.trans (h1.mono hB.size)
 replace ra:=Row.below ra h1
 replace rp:=Row.below rp h1
 replace ro:=Row.below ro h1
 replace rg:=Row.below rg h1
 clear h1
 have sa:=Row.cells4 ra
 have sp:=Row.cells1 rp
 have so:=Row.cells4 ro
 have sg:=Row.cells2 rg
 go_wp2_with fail
 refine (MS _).mono ?_
 rintro e W7 ⟨rfl,h1⟩
 clear sa
 clear sp
 clear so
 clear sg
 replace hB:=hB.trans (h1.mono hB.size)
 replace ra:=Row.below ra h1
 replace rp:=Row.below rp h1
 replace ro:=Row.below ro h1
 replace rg:=Row.below rg h1
 clear h1
 have sa:=Row.cells4 ra
 have sp:=Row.cells1 rp
 have so:=Row.cells4 ro
 have sg:=Row.cells2 rg
 have KG:∀ X,Row X W2.heap.size (.cells #[.int .i64 (p:Int),.string (S (TT p))] 218)→(X.cell? ⟨W2.heap.size,0,none⟩=some (.int .i64 (p:Int))∧X.cell? ⟨W2.heap.size,1,none⟩=some (.string (S (TT p)))):=fun X h=>⟨(Row.cells2 h).2.1,(Row.cells2 h).2.2.1⟩
 clear RL RH MZ MC MT MG KA MA MS
 go_wp2_with fail
 generalize hgtl:S ml=tl at *
 generalize hgtt:S (TT p)=tt at *
 generalize hgth:S mk=th at *
 generalize hgxn:S x.num=xn at *
 generalize hgxd:S (x.den:Int)=xd at *
 generalize hgyn:S y.num=yn at *
 generalize hgyd:S (y.den:Int)=yd at *
 have HG:=Lib.hid (And.intro hgxn (And.intro hgxd (And.intro hgyn hgyd)))
 clear hgtl hgtt hgth hgxn hgxd hgyn hgyd
 go_region_held3 (fun X=>X.cell? ⟨W2.heap.size,0,none⟩=some (.int .i64 (p:Int))∧X.cell? ⟨W2.heap.size,1,none⟩=some (.string tt)) (first | exact KG _ C3_rg) (first
   | (go_at_call 186; with_reducible refine (K0 _ (by first | exact he.below hB | exact he.below hB.drew | exact he.below (below_drewN hB _))).mono ?_;rintro e W ⟨rfl,h1⟩;(try replace h1:=below_of_drew h1);replace hB:=hB.trans (h1.mono hB.size);replace ra:=Row.below ra h1;replace rp:=Row.below rp h1;replace ro:=Row.below ro h1;replace rg:=Row.below rg h1;have so:=Row.cells4 ro)
   | (go_at_call 186; with_reducible refine (K1 _ (by first | exact he.below hB | exact he.below hB.drew | exact he.below (below_drewN hB _))).mono ?_;rintro e W ⟨rfl,h1⟩;(try replace h1:=below_of_drew h1);replace hB:=hB.trans (h1.mono hB.size);replace ra:=Row.below ra h1;replace rp:=Row.below rp h1;replace ro:=Row.below ro h1;replace rg:=Row.below rg h1;have so:=Row.cells4 ro)
   | (go_at_call 213; with_reducible refine (MX _).mono ?_;rintro e W ⟨rfl,h1⟩;(try replace h1:=below_of_drew h1);replace hB:=hB.trans (h1.mono hB.size);replace ra:=Row.below ra h1;replace rp:=Row.below rp h1;replace ro:=Row.below ro h1;replace rg:=Row.below rg h1;have so:=Row.cells4 ro)
   | (go_at_call 213; with_reducible refine (MY _).mono ?_;rintro e W ⟨rfl,h1⟩;(try replace h1:=below_of_drew h1);replace hB:=hB.trans (h1.mono hB.size);replace ra:=Row.below ra h1;replace rp:=Row.below rp h1;replace ro:=Row.below ro h1;replace rg:=Row.below rg h1;have so:=Row.cells4 ro))
 go_wp2
 have sB:=hB.size
 refine post_cut (fun X=>Below w.heap.size w X∧Row X w.heap.size (.cells #[.string xn,.string xd,.string yn,.string yd] 30)) ⟨C1_hB,C3_ro⟩ ?_
 clear ro
 clear so
 clear hB sB
 rintro V8 ⟨hB,ro⟩
 have so:=Row.cells4 ro
 refine bodyPost_ret (v := .agg #[.string xn,.string xd,.string yn,.string yd]) ?res rfl ⟨⟨x,y⟩,SQ2.out,by rw [← HG.out.1,← HG.out.2.1,← HG.out.2.2.1,← HG.out.2.2.2];rfl,hB⟩
 case res=>simp [results,Tryz.results207, go_sem,so]
theorem esqrt1 (ba bp j p:Nat) (a:Iv) (da:IDig j a) (hj:0<j) (oa:a.Ok) (hp:p≤30) (hjp:j+p+p+1≤200) (h0:0≤a.lo) (w:World) (he:Env w) (ra:IvRow w ba a) (rp:Row w bp (.cells #[.int .i64 (p:Int)] 3)) :
  Calls Tryz.prog 207 #[.pointer (some ⟨bp,0,none⟩),.pointer (some ⟨ba,0,none⟩)] w (ivIs (SqrtI a (TT p)) w):=by
 have hh:0≤a.hi:=Rat.le_trans h0 oa
 obtain ⟨ml,hml⟩:=exists_rootI (rootQ_nonneg h0 (TT_pos p))
 obtain ⟨mh,hmh⟩:=exists_rootI (rootQ_nonneg hh (TT_pos p))
 by_cases hx:ExactR a.hi (TT p) mh
 ·exact esqrt1_exact ba bp j p a ml mh da hp hjp h0 hml hmh hx w he ra rp
 ·exact esqrt1_above ba bp j p a ml mh da (by omega) hp hjp h0 hml hmh hx w he ra rp
theorem esqrt {j:Nat} {a:Iv} {p:Nat} (da:IDig j a) (hj:0<j) (oa:a.Ok) (hp:p≤30) (hjp:j+p+p+1≤200) (h0:0≤a.lo) (w:World) (he:Env w) :
  Calls Tryz.prog 149 #[I a,.int .i64 (p:Int)] w (ivOk (SqrtI a (TT p)) w):=by
 have egG:∀ args w,(callFunc 207 args).run Tryz.prog w = .ok (.enter 207 args) w:=enters_of Tryz.func207 (by kernel_rfl) rfl
 have egC:∀ args w,(callFunc 243 args).run Tryz.prog w = .ok (.enter 243 args) w:=enters_of Tryz.func243 (by kernel_rfl) rfl
 have hB:Below w.heap.size w w:=Below.refl _ _
 show Calls Tryz.prog 149 #[.agg #[.string (S a.lo.num),.string (S (a.lo.den:Int)),.string (S a.hi.num),.string (S (a.hi.den:Int))],.int .i64 (p:Int)] w _
 go_enter Tryz.func149, Tryz.ntmps149
 have hmf:∀ (fn:Fn) (first cap:Array Value) (w:World),(Instr.makeFunc fn first cap).run Tryz.prog w = .ok (.func fn first cap) w:=fun _ _ _ _=>rfl
 go_wp2_with fail
 have sB:=hB.size
 refine world_cut (fun X=>Below w.heap.size w X∧Row X w.heap.size (.cells #[.string (S a.lo.num),.string (S (a.lo.den:Int)),.string (S a.hi.num),.string (S (a.hi.den:Int))] 30)∧Row X (w.heap.size+1) (.cells #[.int .i64 (p:Int)] 3)∧Row X (w.heap.size+1+1) (.cells #[.string ⟨#[]⟩,.string ⟨#[]⟩,.string ⟨#[]⟩,.string ⟨#[]⟩] 30)∧Row X (w.heap.size+1+1+1) (.cells #[.string (S a.lo.num),.string (S (a.lo.den:Int)),.string (S a.hi.num),.string (S (a.hi.den:Int))] 30)) ⟨C1_hB,C2,C2,C2,C2⟩ ?_
 clear hB sB
 rintro V1 ⟨hB,ra,rp,ro,rs⟩
 have sa:=Row.cells4 ra
 have sp:=Row.cells1 rp
 have so:=Row.cells4 ro
 have ss:=Row.cells4 rs
 refine (ivcompute_ok 207 _ _ 1 (SqrtI a (TT p)) _ egG (fun W h=>contains1 243 egC _ a W (Row.below rs h) (fun W2 h2=>ivbad a (da.mono (by omega)) oa W2 ((he.below (hB.trans (h.mono hB.size))).below h2))) (fun W h=>esqrt1 _ _ j p a da hj oa hp hjp h0 W (he.below (hB.trans (h.mono hB.size))) (Row.below ra h) (Row.below rp h))).mono ?_
 rintro e W1 ⟨v,pv,rfl,h1⟩
 have PV:=Lib.hid pv
 clear pv
 clear sa
 clear sp
 clear so
 clear ss
 replace hB:=hB.trans (h1.mono hB.size)
 replace ra:=Row.below ra h1
 replace rp:=Row.below rp h1
 replace ro:=Row.below ro h1
 replace rs:=Row.below rs h1
 clear h1
 have sa:=Row.cells4 ra
 have sp:=Row.cells1 rp
 have so:=Row.cells4 ro
 have ss:=Row.cells4 rs
 clear hmf egG egC
 unfold I
 go_wp2
 have sB:=hB.size
 refine post_cut (fun X=>Below w.heap.size w X∧Row X w.heap.size (.cells #[.string (S a.lo.num),.string (S (a.lo.den:Int)),.string (S a.hi.num),.string (S (a.hi.den:Int))] 30)∧Row X (w.heap.size+1) (.cells #[.int .i64 (p:Int)] 3)∧Row X (w.heap.size+1+1) (.cells #[.string (S v.lo.num),.string (S (v.lo.den:Int)),.string (S v.hi.num),.string (S (v.hi.den:Int))] 30)∧Row X (w.heap.size+1+1+1) (.cells #[.string (S a.lo.num),.string (S (a.lo.den:Int)),.string (S a.hi.num),.string (S (a.hi.den:Int))] 30)) ⟨C1_hB,C3_ra,C3_rp,C3_ro,C3_rs⟩ ?_
 clear ra
 clear sa
 clear rp
 clear sp
 clear ro
 clear so
 clear rs
 clear ss
 clear hB sB
 rintro V2 ⟨hB,ra,rp,ro,rs⟩
 have sa:=Row.cells4 ra
 have sp:=Row.cells1 rp
 have so:=Row.cells4 ro
 have ss:=Row.cells4 rs
 refine bodyPost_ret (v := .tuple #[.agg #[.string (S v.lo.num),.string (S (v.lo.den:Int)),.string (S v.hi.num),.string (S (v.hi.den:Int))],.int .i64 0]) ?res rfl ⟨_,PV.out,rfl,hB⟩
 case res=>simp [results,Tryz.results149, go_sem,so]
end Go.Proofs.YtnokpldomlmamaaGreatDoor
