/-
 Package rational, over fractions whose parts are short: Valid, and the methods of a calculation.
-/
import Derived.Test.YtnokpldomlmamaaGreatDoorKLaw1
import Derived.Test.YtnokpldomlmamaaGreatDoorKQPlain6
set_option maxRecDepth 100000
set_option maxHeartbeats 1000000
namespace Go.Proofs.YtnokpldomlmamaaGreatDoor
open Go Go.RowKit Go.Lib Go.Shelf
/-- The fraction's value in the program. -/
def Q (q:Rat):Value := .agg #[.string (S q.num),.string (S (q.den:Int))]
theorem S_one:S 1=⟨#[49]⟩:=by
 have h:Is ⟨#[49]⟩ 1:=is_lit (by decide) (by decide)
 exact h.eq.symm
theorem one_facts {W:World} {b:Nat} {v0:Value} {t:TypeId} (h:W.heap[b]? = some (.cells #[v0] t (0,0))) :
  W.cell? ⟨b,0,none⟩=some v0∧W.frozen? ⟨b,0,none⟩=false :=
 ⟨cell_of_row _ _ 0 _ _ _ h,frozen_of_row _ _ 0 _ _ h⟩
/-- To store what is there already changes nothing. -/
theorem setCell_same {W:World} {b:Nat} {v0:Value} {t:TypeId} (h:W.heap[b]? = some (.cells #[v0] t (0,0))):W.setCell ⟨b,0,none⟩ v0=W:=by
 have e:(W.setCell ⟨b,0,none⟩ v0).heap=W.heap:=by
  apply Array.ext_getElem?
  intro k
  by_cases hk:k=b
  ·subst hk;simp [World.setCell,Array.getElem?_modify,h]
  ·exact Below.heap_setCell _ _ _ _ hk
 cases W
 simp only [World.setCell] at e ⊢
 rw [e]
/-- A calculation that hasn't failed. -/
def Wk (W:World) (p:Nat):Prop:=p<W.heap.size∧W.heap[p]? = some (.cells #[.bool false] 142 (0,0))
theorem Wk.below {W W':World} {p:Nat} (h:Wk W p) (hb:Below W.heap.size W W'):Wk W' p:=⟨Nat.lt_of_lt_of_le h.1 hb.size,(hb.block p h.1).trans h.2⟩
/-- A block holds an object. -/
def Row (W:World) (b:Nat) (o:Obj):Prop:=b<W.heap.size∧W.heap[b]? = some o
theorem Row.below {W W':World} {b:Nat} {o:Obj} (h:Row W b o) (hb:Below W.heap.size W W'):Row W' b o:=⟨Nat.lt_of_lt_of_le h.1 hb.size,(hb.block b h.1).trans h.2⟩
theorem row_new (w:World) (o:Obj):Row (w.alloc o) w.heap.size o:=⟨by simp,heap_alloc_new _ _⟩
theorem Row.alloc {W:World} {b:Nat} {o:Obj} (h:Row W b o) (o':Obj):Row (W.alloc o') b o:=h.below ((Below.refl _ _).alloc (Nat.le_refl _) o')
theorem Wk.alloc {W:World} {p:Nat} (h:Wk W p) (o':Obj):Wk (W.alloc o') p:=h.below ((Below.refl _ _).alloc (Nat.le_refl _) o')
def SOk (z:Int) (w:World) (e:Ending) (w':World):Prop:=e = .returned (.string (S z))∧Below w.heap.size w w'
theorem qvalid (q:Rat) (h:QDig 200 q) (w:World) (he:Env w):Calls Tryz.prog 58 #[Q q] w (BoolOk true w):=by
 have i0:Is ⟨#[48]⟩ 0:=is_zero
 have f0:Fits 0:=fits_zero
 have hn:=is_S q.num
 have hd:=is_S (q.den:Int)
 have fn:Fits q.num:=h.1
 have fd:Fits (q.den:Int):=h.2
 have V1:Hid (validB (S q.num).data.toList=true):=Lib.hid (hn.valid fn)
 have V2:Hid (validB (S (q.den:Int)).data.toList=true):=Lib.hid (hd.valid fd)
 have C:Hid (cmpZ (q.den:Int) 0=1):=Lib.hid (cmpZ_gt (den_pos q))
 have G:Hid (((q.num.natAbs.gcd (q.den:Int).natAbs:Nat):Int)=1):=Lib.hid (by rw [rat_parts];rfl)
 have hB:Below w.heap.size w w:=Below.refl _ _
 unfold Q
 generalize S q.num=sn at *
 generalize S (q.den:Int)=sd at *
 have hr:=row_new w (.cells #[.string sn,.string sd] 23)
 replace hB:=hB.alloc (Nat.le_refl _) (.cells #[.string sn,.string sd] 23)
 go_enter Tryz.func58, Tryz.ntmps58
 go_wp2_with fail
 generalize w.alloc (.cells #[.string sn,.string sd] 23)=W0 at *
 refine (validS V1 (hn.str fn) _).mono ?_
 rintro e W ⟨rfl,hb⟩
 replace hB:=hB.trans (hb.mono hB.size)
 replace hr:=hr.below hb
 obtain ⟨c1,c2,_,_⟩:=two_facts hr.2
 clear hb
 go_wp2_with fail
 refine (validS V2 (hd.str fd) _).mono ?_
 rintro e W ⟨rfl,hb⟩
 replace hB:=hB.trans (hb.mono hB.size)
 replace hr:=hr.below hb
 obtain ⟨c1,c2,_,_⟩:=two_facts hr.2
 clear hb
 go_wp2_with fail
 refine (cmpS hd i0 C fd f0 _).mono ?_
 rintro e W ⟨rfl,hb⟩
 replace hB:=hB.trans (hb.mono hB.size)
 replace hr:=hr.below hb
 obtain ⟨c1,c2,_,_⟩:=two_facts hr.2
 clear hb
 go_wp2_with fail
 refine (gcdS hn hd G fn fd _ (he.below hB)).mono ?_
 rintro e W ⟨rfl,hb⟩
 replace hB:=hB.trans (hb.mono hB.size)
 replace hr:=hr.below hb
 obtain ⟨c1,c2,_,_⟩:=two_facts hr.2
 clear hb
 rw [S_one]
 go_wp2
 refine bodyPost_ret (v := .bool true) ?res rfl ⟨rfl,hB⟩
 case res=>simp [results,Tryz.f58, go_sem]
theorem qvalid_zero (w:World):Calls Tryz.prog 58 #[.agg #[.string ⟨#[]⟩,.string ⟨#[]⟩]] w (BoolOk false w):=by
 have V:Hid (validB (⟨#[]⟩:ByteArray).data.toList=false):=Lib.hid (by decide)
 have hB:Below w.heap.size w w:=Below.refl _ _
 replace hB:=hB.alloc (Nat.le_refl _) (.cells #[.string ⟨#[]⟩,.string ⟨#[]⟩] 23)
 go_enter Tryz.func58, Tryz.ntmps58
 go_wp2_with fail
 refine (validS V (by unfold Str;decide) _).mono ?_
 rintro e W ⟨rfl,hb⟩
 replace hB:=hB.trans (hb.mono hB.size)
 clear hb
 go_wp2
 refine bodyPost_ret (v := .bool false) ?res rfl ⟨rfl,hB⟩
 case res=>simp [results,Tryz.f58, go_sem]
/-- One operation of a calculation. -/
theorem wdo (p:Nat) (F:FuncId) (a b:ByteArray) (z:Int) (w:World) (eg:∀ args w,(callFunc F args).run Tryz.prog w = .ok (.enter F args) w) (hw:Wk w p)
  (h:Calls Tryz.prog F #[.string a,.string b] w (StrOk z w)) :
  Calls Tryz.prog 179 #[.pointer (some ⟨p,0,none⟩),.func (.func F) #[] #[],.string a,.string b] w (SOk z w):=by
 obtain ⟨c0,f0⟩:=one_facts hw.2
 go_enter Tryz.func179, Tryz.ntmps179
 go_wp2_with (go_at_fn F;refine h.mono ?_;rintro e W1 ⟨rfl,hb⟩;have hw1:=hw.below hb;obtain ⟨c1,f1⟩:=one_facts hw1.2;have hs:=setCell_same hw1.2)
 refine bodyPost_ret (v := .string (S z)) ?res rfl ⟨rfl,hb⟩
 case res=>simp [results,Tryz.f179, go_sem]
theorem wmul (p:Nat) {a b:ByteArray} {x y v:Int} (ha:Is a x) (hb:Is b y) (hv:Hid (x * y=v)) (hx:Fits x) (hy:Fits y) (hf:Fits v) (w:World) (he:Env w) (hw:Wk w p) :
  Calls Tryz.prog 114 #[.pointer (some ⟨p,0,none⟩),.string a,.string b] w (SOk v w):=by
 have eg:∀ args w,(callFunc 183 args).run Tryz.prog w = .ok (.enter 183 args) w:=enters_of Tryz.func183 (by kernel_rfl) rfl
 have H:=wdo p _ a b v w eg hw (mulS ha hb hv hx hy hf w he)
 go_enter Tryz.func114, Tryz.ntmps114
 go_wp2_with fail
 refine H.mono ?_
 rintro e W ⟨rfl,hb⟩
 go_wp2
 refine bodyPost_ret (v := .string (S v)) ?res rfl ⟨rfl,hb⟩
 case res=>simp [results,Tryz.f114, go_sem]
theorem wquotient1 {a b:ByteArray} {x y v:Int} (ha:Is a x) (hb:Is b y) (hv:Hid (x / y=v)) (hx:Fits x) (hy:Fits y) (hy0:Hid (y≠0)) (w:World) (he:Env w) :
  Calls Tryz.prog 228 #[.string a,.string b] w (StrOk v w):=by
 go_enter Tryz.func228, Tryz.ntmps228
 go_wp2_with fail
 refine (divS ha hb hv (Lib.hid rfl) hx hy hy0 _ he).mono ?_
 rintro e W ⟨rfl,hb⟩
 go_wp2
 refine bodyPost_ret (v := .tuple #[.string (S v),.int .i64 0]) ?res rfl ⟨rfl,hb⟩
 case res=>simp [results,Tryz.f228, go_sem]
theorem wquotient (p:Nat) {a b:ByteArray} {x y v:Int} (ha:Is a x) (hb:Is b y) (hv:Hid (x / y=v)) (hx:Fits x) (hy:Fits y) (hy0:Hid (y≠0)) (w:World) (he:Env w) (hw:Wk w p) :
  Calls Tryz.prog 184 #[.pointer (some ⟨p,0,none⟩),.string a,.string b] w (SOk v w):=by
 have hmf:∀ (fn:Fn) (first cap:Array Value) (w:World),(Instr.makeFunc fn first cap).run Tryz.prog w = .ok (.func fn first cap) w:=fun _ _ _ _=>rfl
 have eg:∀ args w,(callFunc 228 args).run Tryz.prog w = .ok (.enter 228 args) w:=enters_of Tryz.func228 (by kernel_rfl) rfl
 have H:=wdo p _ a b v w eg hw (wquotient1 ha hb hv hx hy hy0 w he)
 go_enter Tryz.func184, Tryz.ntmps184
 go_wp2_with fail
 refine H.mono ?_
 rintro e W ⟨rfl,hb⟩
 go_wp2
 refine bodyPost_ret (v := .string (S v)) ?res rfl ⟨rfl,hb⟩
 case res=>simp [results,Tryz.f184, go_sem]
def QOk (q:Rat) (w:World) (e:Ending) (w':World):Prop:=e = .returned (.tuple #[Q q,.int .i64 0])∧Below w.heap.size w w'
/-- A quotient by the common divisor. -/
theorem gcd_pos' {n d:Int} (hd:d≠0):((n.natAbs.gcd d.natAbs:Nat):Int)≠0:=by
 have:=Nat.gcd_pos_of_pos_right n.natAbs (show 0<d.natAbs by omega)
 omega
theorem wreduced_pos (p:Nat) {a b:ByteArray} {n d:Int} (ha:Is a n) (hb:Is b d) (hn:Fits n) (hd:Fits d) (hd0:0<d) (w:World) (he:Env w) (hw:Wk w p) :
  Calls Tryz.prog 115 #[.pointer (some ⟨p,0,none⟩),.string a,.string b] w (QOk (Rat.divInt n d) w):=by
 have i0:Is ⟨#[48]⟩ 0:=is_zero
 have f0:Fits 0:=fits_zero
 have eg:∀ args w,(callFunc 142 args).run Tryz.prog w = .ok (.enter 142 args) w:=enters_of Tryz.func142 (by kernel_rfl) rfl
 have nz:(b.toList == [48])=false:=by rw [hb.eq];exact S_ne0 (by omega)
 have C:Hid (cmpZ d 0=1):=Lib.hid (cmpZ_gt hd0)
 obtain ⟨g,hg⟩:∃ g:Int,g=((n.natAbs.gcd d.natAbs:Nat):Int):=⟨_,rfl⟩
 have G:=Lib.hid hg.symm
 have fg:Fits g:=by rw [hg];exact gcd_fits hn hd
 have g0:Hid (g≠0):=Lib.hid (by rw [hg];exact gcd_pos' (by omega))
 have ig:=is_S g
 obtain ⟨r1,r2⟩:=reduced_parts (n:=n) hd0
 rw [← hg] at r1 r2
 have R1:=Lib.hid r1.symm
 have R2:=Lib.hid r2.symm
 clear r1 r2 hg hd0
 have hr:=row_new w (.cells #[.string ⟨#[]⟩,.string ⟨#[]⟩] 23)
 have hne:p≠w.heap.size:=by have:=hw.1;omega
 replace hw:=hw.alloc (.cells #[.string ⟨#[]⟩,.string ⟨#[]⟩] 23)
 obtain ⟨c0,fz0⟩:=one_facts hw.2
 have hB:=(Below.refl w.heap.size w).alloc (Nat.le_refl _) (.cells #[.string ⟨#[]⟩,.string ⟨#[]⟩] 23)
 unfold QOk Q
 generalize Rat.divInt n d=q at *
 go_enter Tryz.func115, Tryz.ntmps115
 go_wp2_with fail
 refine (cmpS hb i0 C hd f0 _).mono ?_
 rintro e W ⟨rfl,h1⟩
 replace hB:=hB.trans (h1.mono hB.size)
 replace hr:=hr.below h1
 have hw1:=hw.below h1
 clear h1
 go_wp2_with fail
 refine (wdo p _ a b g _ eg hw1 (gcdS ha hb G hn hd _ (he.below hB))).mono ?_
 rintro e W2 ⟨rfl,h1⟩
 replace hB:=hB.trans (h1.mono hB.size)
 replace hr:=hr.below h1
 have hw2:=hw1.below h1
 clear h1 hw1
 go_wp2_with fail
 refine (wquotient p ha ig R1 hn fg g0 _ (he.below hB) hw2).mono ?_
 rintro e W3 ⟨rfl,h1⟩
 replace hB:=hB.trans (h1.mono hB.size)
 replace hr:=hr.below h1
 have hw3:=hw2.below h1
 clear h1 hw2
 go_wp2_with fail
 refine (wquotient p hb ig R2 hd fg g0 _ (he.below hB) hw3).mono ?_
 rintro e W4 ⟨rfl,h1⟩
 replace hB:=hB.trans (h1.mono hB.size)
 replace hr:=hr.below h1
 have hw4:=(hw3.below h1).alloc (.cells #[.string (S q.num),.string (S (q.den:Int))] 23)
 have hn4:=row_new W4 (.cells #[.string (S q.num),.string (S (q.den:Int))] 23)
 replace hr:=hr.alloc (.cells #[.string (S q.num),.string (S (q.den:Int))] 23)
 replace hB:=hB.alloc hB.size (.cells #[.string (S q.num),.string (S (q.den:Int))] 23)
 obtain ⟨c4,f4⟩:=one_facts hw4.2
 obtain ⟨c5,c6,f5,f6⟩:=two_facts hr.2
 obtain ⟨c7,c8,f7,f8⟩:=two_facts hn4.2
 have hst:=store_two hr.2 (.string (S q.num)) (.string (S (q.den:Int)))
 obtain ⟨g1,g2,_,_⟩:=two_facts hst
 have hBs:=(hB.setCell (p:=⟨w.heap.size,0,none⟩) (by simp) (.string (S q.num))).setCell (p:=⟨w.heap.size,1,none⟩) (by simp) (.string (S (q.den:Int)))
 clear h1 hw3
 go_wp2
 refine bodyPost_ret (v := .tuple #[.agg #[.string (S q.num),.string (S (q.den:Int))],.int .i64 0]) ?res rfl ⟨rfl,hBs⟩
 case res=>simp [results,Tryz.f115, go_sem,g1,g2]
theorem wreduced_neg (p:Nat) {a b:ByteArray} {n d:Int} (ha:Is a n) (hb:Is b d) (hn:Fits n) (hd:Fits d) (hd0:d<0) (w:World) (he:Env w) (hw:Wk w p) :
  Calls Tryz.prog 115 #[.pointer (some ⟨p,0,none⟩),.string a,.string b] w (QOk (Rat.divInt n d) w):=by
 have i0:Is ⟨#[48]⟩ 0:=is_zero
 have f0:Fits 0:=fits_zero
 have eg:∀ args w,(callFunc 142 args).run Tryz.prog w = .ok (.enter 142 args) w:=enters_of Tryz.func142 (by kernel_rfl) rfl
 have es:∀ args w,(callFunc 112 args).run Tryz.prog w = .ok (.enter 112 args) w:=enters_of Tryz.func112 (by kernel_rfl) rfl
 have nz:(b.toList == [48])=false:=by rw [hb.eq];exact S_ne0 (by omega)
 have C:Hid (cmpZ d 0 = -1):=Lib.hid (cmpZ_lt hd0)
 obtain ⟨n',hn'⟩:∃ n',n'=0 - n:=⟨_,rfl⟩
 obtain ⟨d',hd'⟩:∃ d',d'=0 - d:=⟨_,rfl⟩
 have N1:=Lib.hid hn'.symm
 have N2:=Lib.hid hd'.symm
 have fn':Fits n':=by rw [hn'];unfold Fits at *;omega
 have fd':Fits d':=by rw [hd'];unfold Fits at *;omega
 have e:Rat.divInt n d=Rat.divInt n' d':=by rw [← divInt_neg,hn',hd',Int.zero_sub,Int.zero_sub]
 rw [e]
 have hdp:0<d':=by omega
 obtain ⟨g,hg⟩:∃ g:Int,g=((n'.natAbs.gcd d'.natAbs:Nat):Int):=⟨_,rfl⟩
 have G:=Lib.hid hg.symm
 have fg:Fits g:=by rw [hg];exact gcd_fits fn' fd'
 have g0:Hid (g≠0):=Lib.hid (by rw [hg];exact gcd_pos' (by omega))
 have ig:=is_S g
 obtain ⟨r1,r2⟩:=reduced_parts (n:=n') hdp
 rw [← hg] at r1 r2
 have R1:=Lib.hid r1.symm
 have R2:=Lib.hid r2.symm
 have ha':=is_S n'
 have hb':=is_S d'
 clear r1 r2 hg hd0 hdp e hn' hd'
 have hr:=row_new w (.cells #[.string ⟨#[]⟩,.string ⟨#[]⟩] 23)
 have hne:p≠w.heap.size:=by have:=hw.1;omega
 replace hw:=hw.alloc (.cells #[.string ⟨#[]⟩,.string ⟨#[]⟩] 23)
 obtain ⟨c0,fz0⟩:=one_facts hw.2
 have hB:=(Below.refl w.heap.size w).alloc (Nat.le_refl _) (.cells #[.string ⟨#[]⟩,.string ⟨#[]⟩] 23)
 unfold QOk Q
 generalize Rat.divInt n' d'=q at *
 go_enter Tryz.func115, Tryz.ntmps115
 go_wp2_with fail
 refine (cmpS hb i0 C hd f0 _).mono ?_
 rintro e W ⟨rfl,h1⟩
 replace hB:=hB.trans (h1.mono hB.size)
 replace hr:=hr.below h1
 have hw1:=hw.below h1
 clear h1
 go_wp2_with fail
 refine (wdo p _ _ a n' _ es hw1 (subS i0 ha N1 f0 hn fn' _ (he.below hB))).mono ?_
 rintro e W2 ⟨rfl,h1⟩
 replace hB:=hB.trans (h1.mono hB.size)
 replace hr:=hr.below h1
 have hw2:=hw1.below h1
 clear h1 hw1
 go_wp2_with fail
 refine (wdo p _ _ b d' _ es hw2 (subS i0 hb N2 f0 hd fd' _ (he.below hB))).mono ?_
 rintro e W2 ⟨rfl,h1⟩
 replace hB:=hB.trans (h1.mono hB.size)
 replace hr:=hr.below h1
 have hw3:=hw2.below h1
 clear h1 hw2
 go_wp2_with fail
 refine (wdo p _ _ _ g _ eg hw3 (gcdS ha' hb' G fn' fd' _ (he.below hB))).mono ?_
 rintro e W2 ⟨rfl,h1⟩
 replace hB:=hB.trans (h1.mono hB.size)
 replace hr:=hr.below h1
 have hw2:=hw3.below h1
 clear h1 hw3
 go_wp2_with fail
 refine (wquotient p ha' ig R1 fn' fg g0 _ (he.below hB) hw2).mono ?_
 rintro e W3 ⟨rfl,h1⟩
 replace hB:=hB.trans (h1.mono hB.size)
 replace hr:=hr.below h1
 have hw3:=hw2.below h1
 clear h1 hw2
 go_wp2_with fail
 refine (wquotient p hb' ig R2 fd' fg g0 _ (he.below hB) hw3).mono ?_
 rintro e W4 ⟨rfl,h1⟩
 replace hB:=hB.trans (h1.mono hB.size)
 replace hr:=hr.below h1
 have hw4:=(hw3.below h1).alloc (.cells #[.string (S q.num),.string (S (q.den:Int))] 23)
 have hn4:=row_new W4 (.cells #[.string (S q.num),.string (S (q.den:Int))] 23)
 replace hr:=hr.alloc (.cells #[.string (S q.num),.string (S (q.den:Int))] 23)
 replace hB:=hB.alloc hB.size (.cells #[.string (S q.num),.string (S (q.den:Int))] 23)
 obtain ⟨c4,f4⟩:=one_facts hw4.2
 obtain ⟨c5,c6,f5,f6⟩:=two_facts hr.2
 obtain ⟨c7,c8,f7,f8⟩:=two_facts hn4.2
 have hst:=store_two hr.2 (.string (S q.num)) (.string (S (q.den:Int)))
 obtain ⟨g1,g2,_,_⟩:=two_facts hst
 have hBs:=(hB.setCell (p:=⟨w.heap.size,0,none⟩) (by simp) (.string (S q.num))).setCell (p:=⟨w.heap.size,1,none⟩) (by simp) (.string (S (q.den:Int)))
 clear h1 hw3
 go_wp2
 refine bodyPost_ret (v := .tuple #[.agg #[.string (S q.num),.string (S (q.den:Int))],.int .i64 0]) ?res rfl ⟨rfl,hBs⟩
 case res=>simp [results,Tryz.f115, go_sem,g1,g2]
theorem wreduced (p:Nat) {a b:ByteArray} {n d:Int} (ha:Is a n) (hb:Is b d) (hn:Fits n) (hd:Fits d) (hd0:d≠0) (w:World) (he:Env w) (hw:Wk w p) :
  Calls Tryz.prog 115 #[.pointer (some ⟨p,0,none⟩),.string a,.string b] w (QOk (Rat.divInt n d) w):=by
 rcases Int.lt_or_gt_of_ne hd0 with h | h
 ·exact wreduced_neg p ha hb hn hd h w he hw
 ·exact wreduced_pos p ha hb hn hd h w he hw
end Go.Proofs.YtnokpldomlmamaaGreatDoor
namespace Go.Proofs.YtnokpldomlmamaaGreatDoor
open Go Go.RowKit Go.Lib Go.Shelf
/-- Two fractions in a slice. -/
def Two (W:World) (s:Nat) (a b:Rat):Prop:=Row W s (.cells #[.string (S a.num),.string (S (a.den:Int)),.string (S b.num),.string (S (b.den:Int))] 23)
def UnitOk (w:World) (e:Ending) (w':World):Prop:=e = .returned (.tuple #[])∧Below w.heap.size w w'
theorem wcheck2 (p s:Nat) (a b:Rat) (ha:QDig 200 a) (hb:QDig 200 b) (w:World) (he:Env w) (hw:Wk w p) (hs:Two w s a b) :
  Calls Tryz.prog 113 #[.pointer (some ⟨p,0,none⟩),.slice (some ⟨s,0,none⟩) 2 2] w (UnitOk w):=by
 go_enter Tryz.func113, Tryz.ntmps113
 go_wp2_with fail
 go_loopw [8] (fun iv wr=>∃ (k:Nat),k≤2∧iv = .int .i64 (k:Int)∧Wk wr p∧Two wr s a b∧Below w.heap.size w wr) (fun iv _=>2 - (RowKit.intOf iv).toNat)
 case atStart=>exact ⟨0,by omega,rfl,hw,hs,Below.refl _ _⟩
 case round =>
  obtain ⟨k,hk,rfl,hw',hs',hB'⟩:=hrel
  have t0:=cell_of_row _ _ 0 _ _ _ hs'.2
  have t1:=cell_of_row _ _ 1 _ _ _ hs'.2
  have t2:=cell_of_row _ _ 2 _ _ _ hs'.2
  have t3:=cell_of_row _ _ 3 _ _ _ hs'.2
  simp only [List.getElem?_toArray,List.getElem?_cons_zero,List.getElem?_cons_succ] at t0 t1 t2 t3
  rcases (show k=0∨k=1∨k=2 by omega) with rfl | rfl | rfl
  ·have hc:=hw'.alloc (.cells #[.string (S a.num),.string (S (a.den:Int))] 23)
   have hsc:=hs'.alloc (.cells #[.string (S a.num),.string (S (a.den:Int))] 23)
   have hBc:=hB'.alloc hB'.size (.cells #[.string (S a.num),.string (S (a.den:Int))] 23)
   obtain ⟨d0,g0⟩:=one_facts hc.2
   go_wp2_with (go_at_call 58; refine (qvalid a ha _ (he.below hBc)).mono ?_;rintro e W1 ⟨rfl,h1⟩;have hw1:=hc.below h1;have hs1:=Row.below hsc h1;obtain ⟨d1,g1⟩:=one_facts hw1.2;have hsame:=setCell_same hw1.2)
   exact ⟨⟨1,by omega,rfl,hw1,hs1,hBc.trans (h1.mono hBc.size)⟩,by simp [RowKit.intOf]⟩
  ·have hc:=hw'.alloc (.cells #[.string (S b.num),.string (S (b.den:Int))] 23)
   have hsc:=hs'.alloc (.cells #[.string (S b.num),.string (S (b.den:Int))] 23)
   have hBc:=hB'.alloc hB'.size (.cells #[.string (S b.num),.string (S (b.den:Int))] 23)
   obtain ⟨d0,g0⟩:=one_facts hc.2
   go_wp2_with (go_at_call 58; refine (qvalid b hb _ (he.below hBc)).mono ?_;rintro e W1 ⟨rfl,h1⟩;have hw1:=hc.below h1;have hs1:=Row.below hsc h1;obtain ⟨d1,g1⟩:=one_facts hw1.2;have hsame:=setCell_same hw1.2)
   exact ⟨⟨2,by omega,rfl,hw1,hs1,hBc.trans (h1.mono hBc.size)⟩,by simp [RowKit.intOf]⟩
  ·go_wp2
   go_end0
   exact ⟨rfl,hB'⟩
end Go.Proofs.YtnokpldomlmamaaGreatDoor
namespace Go.Proofs.YtnokpldomlmamaaGreatDoor
open Go Go.RowKit Go.Lib Go.Shelf
/-- One fraction in a slice. -/
def One (W:World) (s:Nat) (a:Rat):Prop:=Row W s (.cells #[.string (S a.num),.string (S (a.den:Int))] 23)
end Go.Proofs.YtnokpldomlmamaaGreatDoor
