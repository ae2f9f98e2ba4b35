/-
 The reference implementation of fractions: Valid, Make, Of, Add, Sub, Mul. The reference implementation of fractions: Compare. Regions that draw their order and end in operations that each wait, if need be through others, for all ahead of them.
-/
import Derived.Test.YtnokpldomlmamaaGreatDoorOEnv12
import Derived.Test.YtnokpldomlmamaaGreatDoorOQPlain6
import Derived.Test.YtnokpldomlmamaaGreatDoorORefFrom
import Derived.Test.YtnokpldomlmamaaGreatDoorOTail
import Derived.Test.YtnokpldomlmamaaGreatDoorOTail3
set_option linter.unusedSimpArgs false
set_option linter.unusedVariables false
set_option maxRecDepth 100000
set_option maxHeartbeats 4000000
namespace Go.Proofs.YtnokpldomlmamaaGreatDoor
open Go Go.RowKit Go.Lib Go.Shelf
theorem chk_str {z:Int} {w w':World} {e:Ending} (hf:Fits z) (h:ChkOk z w e w'):StrOk z w e w':=by
 unfold ChkOk at h
 rw [tText_fit hf,tErr_fit hf] at h
 exact h
theorem raddS {a b:ByteArray} {x y z:Int} (ha:Is a x) (hb:Is b y) (hz:Hid (x+y=z)) (hx:Fits x) (hy:Fits y) (hf:Fits z) (w:World) :
  Calls Tryz.prog 196 #[.string a,.string b] w (StrOk z w):=(radd_any ha hb hz hx hy w).mono fun _ _ h=>chk_str hf h
theorem rsubS {a b:ByteArray} {x y z:Int} (ha:Is a x) (hb:Is b y) (hz:Hid (x - y=z)) (hx:Fits x) (hy:Fits y) (hf:Fits z) (w:World) :
  Calls Tryz.prog 188 #[.string a,.string b] w (StrOk z w):=(rsub_any ha hb hz hx hy w).mono fun _ _ h=>chk_str hf h
theorem rmulS {a b:ByteArray} {x y z:Int} (ha:Is a x) (hb:Is b y) (hz:Hid (x * y=z)) (hx:Fits x) (hy:Fits y) (hf:Fits z) (w:World) :
  Calls Tryz.prog 220 #[.string a,.string b] w (StrOk z w):=(rmul_any ha hb hz hx hy w).mono fun _ _ h=>chk_str hf h
theorem rvalidB {a:ByteArray} {z:Int} (h:Is a z) (hf:Fits z) (w:World):Calls Tryz.prog 143 #[.string a] w (BoolOk true w) :=
 (rvalid_is h hf w).mono fun _ _ h=>⟨h.1,by rw [h.2];exact Below.refl _ _⟩
theorem rqvalid (q:Rat) (h:QDig 200 q) (w:World):Calls Tryz.prog 61 #[Q q] w (BoolOk true w):=by
 have hB:Below w.heap.size w w:=Below.refl _ _
 have hn:=is_S q.num
 have hd:=is_S (q.den:Int)
 have fn:Fits q.num:=h.1
 have fd:Fits (q.den:Int):=h.2
 have i0:Is ⟨#[48]⟩ 0:=is_zero
 have f0:Fits 0:=fits_zero
 have C:Hid (cmpZ (q.den:Int) 0=1):=Lib.hid (cmpZ_gt (den_pos q))
 have G:Hid (((q.num.natAbs.gcd (q.den:Int).natAbs:Nat):Int)=1):=Lib.hid (by rw [rat_parts];rfl)
 have M1:=fun W=>rvalidB hn fn W
 have M2:=fun W=>rvalidB hd fd W
 have M3:=fun W=>rcmpS hd i0 C fd f0 W
 have M4:=fun W=>rgcdS hn hd G fn fd W
 unfold StrOk at M4
 rw [S_one] at M4
 clear hn hd fn fd i0 f0 C G h
 unfold Q
 generalize S q.num=sn at *
 generalize S (q.den:Int)=sd at *
 go_enter Tryz.func61, Tryz.ntmps61
 go_wp2_with fail
 have sB:=hB.size
 refine world_cut (fun X=>Below w.heap.size w X∧Row X w.heap.size (.cells #[.string sn,.string sd] 23)) ⟨C1_hB,C2⟩ ?_
 clear hB sB
 rintro V1 ⟨hB,rq⟩
 have sq:=Row.cells2 rq
 refine (M1 _).mono ?_
 rintro e W2 ⟨rfl,h1⟩
 clear sq
 replace hB:=hB.trans (h1.mono hB.size)
 replace rq:=Row.below rq h1
 clear h1
 have sq:=Row.cells2 rq
 go_wp2_with fail
 refine (M2 _).mono ?_
 rintro e W3 ⟨rfl,h1⟩
 clear sq
 replace hB:=hB.trans (h1.mono hB.size)
 replace rq:=Row.below rq h1
 clear h1
 have sq:=Row.cells2 rq
 go_wp2_with fail
 refine (M3 _).mono ?_
 rintro e W4 ⟨rfl,h1⟩
 clear sq
 replace hB:=hB.trans (h1.mono hB.size)
 replace rq:=Row.below rq h1
 clear h1
 have sq:=Row.cells2 rq
 go_wp2_with fail
 refine (M4 _).mono ?_
 rintro e W5 ⟨rfl,h1⟩
 clear sq
 replace hB:=hB.trans (h1.mono hB.size)
 replace rq:=Row.below rq h1
 clear h1
 have sq:=Row.cells2 rq
 go_wp2
 go_ret
 exact ⟨rfl,hB⟩
theorem rqmake {a b:ByteArray} {n d:Int} (ha:Is a n) (hb:Is b d) (hn:Fits n) (hd:Fits d) (hd0:0<d) (w:World):Calls Tryz.prog 128 #[.string a,.string b] w (QOk (Rat.divInt n d) w):=by
 have hB:Below w.heap.size w w:=Below.refl _ _
 have i0:Is ⟨#[48]⟩ 0:=is_zero
 have f0:Fits 0:=fits_zero
 have nz:(b.toList == [48])=false:=by rw [hb.eq];exact S_ne0 (by omega)
 have C:Hid (cmpZ d 0=1):=Lib.hid (cmpZ_gt hd0)
 obtain ⟨g,hg⟩:∃ g:Int,g=((n.natAbs.gcd d.natAbs:Nat):Int):=⟨_,rfl⟩
 have G:=Lib.hid hg.symm
 have fg:Fits g:=by rw [hg];exact gcd_fits hn hd
 have g0:Hid (g≠0):=Lib.hid (by rw [hg];exact gcd_pos' (by omega))
 have ig:=is_S g
 obtain ⟨r1,r2⟩:=reduced_parts (n:=n) hd0
 rw [← hg] at r1 r2
 have R1:=Lib.hid r1.symm
 have R2:=Lib.hid r2.symm
 clear r1 r2 hg hd0
 generalize Rat.divInt n d=q at *
 have M1:=fun W=>rvalidB ha hn W
 have M2:=fun W=>rvalidB hb hd W
 have M3:=fun W=>rcmpS hb i0 C hd f0 W
 have M4:=fun W=>rgcdS ha hb G hn hd W
 have M5:=fun W=>rdivS ha ig R1 (Lib.hid rfl) hn fg g0 W
 have M6:=fun W=>rdivS hb ig R2 (Lib.hid rfl) hd fg g0 W
 unfold DivOk at M5 M6
 unfold StrOk at M4
 clear i0 f0 C G fg g0 ig R1 R2 ha hb hn hd
 unfold QOk Q
 go_enter Tryz.func128, Tryz.ntmps128
 go_wp2_with fail
 have sB:=hB.size
 refine world_cut (fun X=>Below w.heap.size w X∧Row X w.heap.size (.cells #[.string ⟨#[]⟩,.string ⟨#[]⟩] 23)) ⟨C1_hB,C2⟩ ?_
 clear hB sB
 rintro V1 ⟨hB,ro⟩
 have so:=Row.cells2 ro
 refine (M1 _).mono ?_
 rintro e W2 ⟨rfl,h1⟩
 clear so
 replace hB:=hB.trans (h1.mono hB.size)
 replace ro:=Row.below ro h1
 clear h1
 have so:=Row.cells2 ro
 go_wp2_with fail
 refine (M2 _).mono ?_
 rintro e W3 ⟨rfl,h1⟩
 clear so
 replace hB:=hB.trans (h1.mono hB.size)
 replace ro:=Row.below ro h1
 clear h1
 have so:=Row.cells2 ro
 go_wp2_with fail
 refine (M3 _).mono ?_
 rintro e W4 ⟨rfl,h1⟩
 clear so
 replace hB:=hB.trans (h1.mono hB.size)
 replace ro:=Row.below ro h1
 clear h1
 have so:=Row.cells2 ro
 go_wp2_with fail
 refine (M4 _).mono ?_
 rintro e W5 ⟨rfl,h1⟩
 clear so
 replace hB:=hB.trans (h1.mono hB.size)
 replace ro:=Row.below ro h1
 clear h1
 have so:=Row.cells2 ro
 go_wp2_with fail
 refine (M5 _).mono ?_
 rintro e W6 ⟨rfl,h1⟩
 clear so
 replace hB:=hB.trans (h1.mono hB.size)
 replace ro:=Row.below ro h1
 clear h1
 have so:=Row.cells2 ro
 go_wp2_with fail
 refine (M6 _).mono ?_
 rintro e W7 ⟨rfl,h1⟩
 clear so
 replace hB:=hB.trans (h1.mono hB.size)
 replace ro:=Row.below ro h1
 clear h1
 have so:=Row.cells2 ro
 go_wp2
 have sB:=hB.size
 refine post_cut (fun X=>Below w.heap.size w X∧Row X w.heap.size (.cells #[.string (S q.num),.string (S (q.den:Int))] 23)) ⟨C1_hB,C3_ro⟩ ?_
 clear ro
 clear so
 clear hB sB
 rintro V8 ⟨hB,ro⟩
 have so:=Row.cells2 ro
 refine bodyPost_ret (v := .tuple #[.agg #[.string (S q.num),.string (S (q.den:Int))],.int .i64 0]) ?res rfl ⟨rfl,hB⟩
 case res=>simp [results,Tryz.results128, go_sem,so]
theorem rqof {n d:Int} (hn:IsInt n) (hd:IsInt d) (hd0:0<d) (w:World):Calls Tryz.prog 48 #[.int .i64 n,.int .i64 d] w (QOk (Rat.divInt n d) w):=by
 have hB:Below w.heap.size w w:=Below.refl _ _
 have M1:=fun W=>rfromIntS (Lib.hid hn) W
 have M2:=fun W=>rfromIntS (Lib.hid hd) W
 have M3:=fun W=>rqmake (is_S n) (is_S d) ((dig_int hn).fits (by omega)) ((dig_int hd).fits (by omega)) hd0 W
 unfold FromOk at M1 M2
 unfold QOk at *
 generalize Rat.divInt n d=q at *
 clear hn hd hd0
 unfold Q at *
 go_enter Tryz.func48, Tryz.ntmps48
 go_wp2_with fail
 have sB:=hB.size
 refine world_cut (fun X=>Below w.heap.size w X∧Row X w.heap.size (.cells #[.string ⟨#[]⟩,.string ⟨#[]⟩] 23)) ⟨C1_hB,C2⟩ ?_
 clear hB sB
 rintro V1 ⟨hB,ro⟩
 have so:=Row.cells2 ro
 refine (M1 _).mono ?_
 rintro e W2 ⟨rfl,h1⟩
 clear so
 replace hB:=hB.trans (h1.mono hB.size)
 replace ro:=Row.below ro h1
 clear h1
 have so:=Row.cells2 ro
 go_wp2_with fail
 refine (M2 _).mono ?_
 rintro e W3 ⟨rfl,h1⟩
 clear so
 replace hB:=hB.trans (h1.mono hB.size)
 replace ro:=Row.below ro h1
 clear h1
 have so:=Row.cells2 ro
 go_wp2_with fail
 refine (M3 _).mono ?_
 rintro e W4 ⟨rfl,h1⟩
 clear so
 replace hB:=hB.trans (h1.mono hB.size)
 replace ro:=Row.below ro h1
 clear h1
 have so:=Row.cells2 ro
 go_wp2
 have sB:=hB.size
 refine post_cut (fun X=>Below w.heap.size w X∧Row X w.heap.size (.cells #[.string (S q.num),.string (S (q.den:Int))] 23)) ⟨C1_hB,C3_ro⟩ ?_
 clear ro
 clear so
 clear hB sB
 rintro V5 ⟨hB,ro⟩
 have so:=Row.cells2 ro
 refine bodyPost_ret (v := .tuple #[.agg #[.string (S q.num),.string (S (q.den:Int))],.int .i64 0]) ?res rfl ⟨rfl,hB⟩
 case res=>simp [results,Tryz.results48, go_sem,so]
theorem rcross {a b:Rat} {x y d:Int} (ha':QDig 200 a) (hb':QDig 200 b) (hx:Hid (a.num * (b.den:Int)=x)) (hy:Hid (b.num * (a.den:Int)=y)) (hd:Hid ((a.den:Int) * (b.den:Int)=d)) (fx:Fits x) (fy:Fits y) (fd:Fits d) (w:World) :
  Calls Tryz.prog 195 #[Q a,Q b] w fun e w'=>e = .returned (.tuple #[.string (S x),.string (S y),.string (S d),.bool true])∧Below w.heap.size w w':=by
 have hB:Below w.heap.size w w:=Below.refl _ _
 have ia:=is_S a.num
 have ib:=is_S b.num
 have ja:=is_S (a.den:Int)
 have jb:=is_S (b.den:Int)
 have fa:Fits a.num:=ha'.1
 have fb:Fits b.num:=hb'.1
 have ga:Fits (a.den:Int):=ha'.2
 have gb:Fits (b.den:Int):=hb'.2
 have QV1:=fun W=>rqvalid a ha' W
 have QV2:=fun W=>rqvalid b hb' W
 have M1:=fun W=>rmulS ia jb hx fa gb fx W
 have M2:=fun W=>rmulS ib ja hy fb ga fy W
 have M3:=fun W=>rmulS ja jb hd ga gb fd W
 unfold StrOk at M1 M2 M3
 clear ia ib ja jb fa fb ga gb hx hy hd fx fy fd
 clear ha' hb'
 unfold Q at *
 generalize S x=sx at *
 generalize S y=sy at *
 generalize S d=sd at *
 go_enter Tryz.func195, Tryz.ntmps195
 go_wp2_with fail
 have sB:=hB.size
 refine world_cut (fun X=>Below w.heap.size w X∧Row X w.heap.size (.cells #[.string (S a.num),.string (S (a.den:Int))] 23)∧Row X (w.heap.size+1) (.cells #[.string (S b.num),.string (S (b.den:Int))] 23)) ⟨C1_hB,C2,C2⟩ ?_
 clear hB sB
 rintro V1 ⟨hB,ra,rb⟩
 have sa:=Row.cells2 ra
 have sb:=Row.cells2 rb
 refine (QV1 _).mono ?_
 rintro e W2 ⟨rfl,h1⟩
 clear sa
 clear sb
 replace hB:=hB.trans (h1.mono hB.size)
 replace ra:=Row.below ra h1
 replace rb:=Row.below rb h1
 clear h1
 have sa:=Row.cells2 ra
 have sb:=Row.cells2 rb
 go_wp2_with fail
 refine (QV2 _).mono ?_
 rintro e W3 ⟨rfl,h1⟩
 clear sa
 clear sb
 replace hB:=hB.trans (h1.mono hB.size)
 replace ra:=Row.below ra h1
 replace rb:=Row.below rb h1
 clear h1
 have sa:=Row.cells2 ra
 have sb:=Row.cells2 rb
 go_wp2_with fail
 refine (M1 _).mono ?_
 rintro e W4 ⟨rfl,h1⟩
 clear sa
 clear sb
 replace hB:=hB.trans (h1.mono hB.size)
 replace ra:=Row.below ra h1
 replace rb:=Row.below rb h1
 clear h1
 have sa:=Row.cells2 ra
 have sb:=Row.cells2 rb
 go_wp2_with fail
 refine (M2 _).mono ?_
 rintro e W5 ⟨rfl,h1⟩
 clear sa
 clear sb
 replace hB:=hB.trans (h1.mono hB.size)
 replace ra:=Row.below ra h1
 replace rb:=Row.below rb h1
 clear h1
 have sa:=Row.cells2 ra
 have sb:=Row.cells2 rb
 go_wp2_with fail
 refine (M3 _).mono ?_
 rintro e W6 ⟨rfl,h1⟩
 clear sa
 clear sb
 replace hB:=hB.trans (h1.mono hB.size)
 replace ra:=Row.below ra h1
 replace rb:=Row.below rb h1
 clear h1
 have sa:=Row.cells2 ra
 have sb:=Row.cells2 rb
 go_wp2
 refine bodyPost_ret (v := .tuple #[.string sx,.string sy,.string sd,.bool true]) ?res rfl ⟨rfl,hB⟩
 case res=>simp [results,Tryz.results195, go_sem]
theorem rqadd {j k:Nat} {a b:Rat} (ha:QDig j a) (hb:QDig k b) (hjk:j+k+1≤200) (w:World):Calls Tryz.prog 137 #[Q a,Q b] w (QOk (a+b) w):=by
 have hB:Below w.heap.size w w:=Below.refl _ _
 have dx:=ha.1.mul hb.2
 have dy:Dig (j+k) (b.num * (a.den:Int)):=by rw [Nat.add_comm];exact hb.1.mul ha.2
 have dd:=ha.2.mul hb.2
 have dn:=dx.add dy
 have d0:0<(a.den:Int) * (b.den:Int):=Int.mul_pos (den_pos a) (den_pos b)
 have M1:=fun W=>rcross (ha.mono (show j≤200 by omega)) (hb.mono (show k≤200 by omega)) (Lib.hid rfl) (Lib.hid rfl) (Lib.hid rfl) (dx.fits (by omega)) (dy.fits (by omega)) (dd.fits (by omega)) W
 have M2:=fun W=>raddS (is_S _) (is_S _) (Lib.hid rfl) (dx.fits (by omega)) (dy.fits (by omega)) (dn.fits (by omega)) W
 have M3:=fun W=>rqmake (is_S _) (is_S _) (dn.fits (by omega)) (dd.fits (by omega)) d0 W
 rw [add_parts] at M3
 unfold QOk at *
 unfold StrOk at M2
 clear dx dy dd dn d0 ha hb hjk
 generalize a+b=q at *
 generalize S (a.num * (b.den:Int)+b.num * (a.den:Int))=sn at *
 generalize S (a.num * (b.den:Int))=sx at *
 generalize S (b.num * (a.den:Int))=sy at *
 generalize S ((a.den:Int) * (b.den:Int))=sd at *
 unfold Q at *
 go_enter Tryz.func137, Tryz.ntmps137
 go_wp2_with fail
 have sB:=hB.size
 refine world_cut (fun X=>Below w.heap.size w X∧Row X w.heap.size (.cells #[.string (S a.num),.string (S (a.den:Int))] 23)∧Row X (w.heap.size+1) (.cells #[.string (S b.num),.string (S (b.den:Int))] 23)∧Row X (w.heap.size+1+1) (.cells #[.string ⟨#[]⟩,.string ⟨#[]⟩] 23)) ⟨C1_hB,C2,C2,C2⟩ ?_
 clear hB sB
 rintro V1 ⟨hB,ra,rb,ro⟩
 have sa:=Row.cells2 ra
 have sb:=Row.cells2 rb
 have so:=Row.cells2 ro
 refine (M1 _).mono ?_
 rintro e W2 ⟨rfl,h1⟩
 clear sa
 clear sb
 clear so
 replace hB:=hB.trans (h1.mono hB.size)
 replace ra:=Row.below ra h1
 replace rb:=Row.below rb h1
 replace ro:=Row.below ro h1
 clear h1
 have sa:=Row.cells2 ra
 have sb:=Row.cells2 rb
 have so:=Row.cells2 ro
 go_wp2_with fail
 refine (M2 _).mono ?_
 rintro e W3 ⟨rfl,h1⟩
 clear sa
 clear sb
 clear so
 replace hB:=hB.trans (h1.mono hB.size)
 replace ra:=Row.below ra h1
 replace rb:=Row.below rb h1
 replace ro:=Row.below ro h1
 clear h1
 have sa:=Row.cells2 ra
 have sb:=Row.cells2 rb
 have so:=Row.cells2 ro
 go_wp2_with fail
 refine (M3 _).mono ?_
 rintro e W4 ⟨rfl,h1⟩
 clear sa
 clear sb
 clear so
 replace hB:=hB.trans (h1.mono hB.size)
 replace ra:=Row.below ra h1
 replace rb:=Row.below rb h1
 replace ro:=Row.below ro h1
 clear h1
 have sa:=Row.cells2 ra
 have sb:=Row.cells2 rb
 have so:=Row.cells2 ro
 go_wp2
 have sB:=hB.size
 refine post_cut (fun X=>Below w.heap.size w X∧Row X w.heap.size (.cells #[.string (S a.num),.string (S (a.den:Int))] 23)∧Row X (w.heap.size+1) (.cells #[.string (S b.num),.string (S (b.den:Int))] 23)∧Row X (w.heap.size+1+1) (.cells #[.string (S q.num),.string (S (q.den:Int))] 23)) ⟨C1_hB,C3_ra,C3_rb,C3_ro⟩ ?_
 clear ra
 clear sa
 clear rb
 clear sb
 clear ro
 clear so
 clear hB sB
 rintro V5 ⟨hB,ra,rb,ro⟩
 have sa:=Row.cells2 ra
 have sb:=Row.cells2 rb
 have so:=Row.cells2 ro
 refine bodyPost_ret (v := .tuple #[.agg #[.string (S q.num),.string (S (q.den:Int))],.int .i64 0]) ?res rfl ⟨rfl,hB⟩
 case res=>simp [results,Tryz.results137, go_sem,so]
theorem rqsub {j k:Nat} {a b:Rat} (ha:QDig j a) (hb:QDig k b) (hjk:j+k+1≤200) (w:World):Calls Tryz.prog 136 #[Q a,Q b] w (QOk (a - b) w):=by
 have hB:Below w.heap.size w w:=Below.refl _ _
 have dx:=ha.1.mul hb.2
 have dy:Dig (j+k) (b.num * (a.den:Int)):=by rw [Nat.add_comm];exact hb.1.mul ha.2
 have dd:=ha.2.mul hb.2
 have dn:=dx.sub dy
 have d0:0<(a.den:Int) * (b.den:Int):=Int.mul_pos (den_pos a) (den_pos b)
 have M1:=fun W=>rcross (ha.mono (show j≤200 by omega)) (hb.mono (show k≤200 by omega)) (Lib.hid rfl) (Lib.hid rfl) (Lib.hid rfl) (dx.fits (by omega)) (dy.fits (by omega)) (dd.fits (by omega)) W
 have M2:=fun W=>rsubS (is_S _) (is_S _) (Lib.hid rfl) (dx.fits (by omega)) (dy.fits (by omega)) (dn.fits (by omega)) W
 have M3:=fun W=>rqmake (is_S _) (is_S _) (dn.fits (by omega)) (dd.fits (by omega)) d0 W
 rw [sub_parts] at M3
 unfold QOk at *
 unfold StrOk at M2
 clear dx dy dd dn d0 ha hb hjk
 generalize a - b=q at *
 generalize S (a.num * (b.den:Int) - b.num * (a.den:Int))=sn at *
 generalize S (a.num * (b.den:Int))=sx at *
 generalize S (b.num * (a.den:Int))=sy at *
 generalize S ((a.den:Int) * (b.den:Int))=sd at *
 unfold Q at *
 go_enter Tryz.func136, Tryz.ntmps136
 go_wp2_with fail
 have sB:=hB.size
 refine world_cut (fun X=>Below w.heap.size w X∧Row X w.heap.size (.cells #[.string (S a.num),.string (S (a.den:Int))] 23)∧Row X (w.heap.size+1) (.cells #[.string (S b.num),.string (S (b.den:Int))] 23)∧Row X (w.heap.size+1+1) (.cells #[.string ⟨#[]⟩,.string ⟨#[]⟩] 23)) ⟨C1_hB,C2,C2,C2⟩ ?_
 clear hB sB
 rintro V1 ⟨hB,ra,rb,ro⟩
 have sa:=Row.cells2 ra
 have sb:=Row.cells2 rb
 have so:=Row.cells2 ro
 refine (M1 _).mono ?_
 rintro e W2 ⟨rfl,h1⟩
 clear sa
 clear sb
 clear so
 replace hB:=hB.trans (h1.mono hB.size)
 replace ra:=Row.below ra h1
 replace rb:=Row.below rb h1
 replace ro:=Row.below ro h1
 clear h1
 have sa:=Row.cells2 ra
 have sb:=Row.cells2 rb
 have so:=Row.cells2 ro
 go_wp2_with fail
 refine (M2 _).mono ?_
 rintro e W3 ⟨rfl,h1⟩
 clear sa
 clear sb
 clear so
 replace hB:=hB.trans (h1.mono hB.size)
 replace ra:=Row.below ra h1
 replace rb:=Row.below rb h1
 replace ro:=Row.below ro h1
 clear h1
 have sa:=Row.cells2 ra
 have sb:=Row.cells2 rb
 have so:=Row.cells2 ro
 go_wp2_with fail
 refine (M3 _).mono ?_
 rintro e W4 ⟨rfl,h1⟩
 clear sa
 clear sb
 clear so
 replace hB:=hB.trans (h1.mono hB.size)
 replace ra:=Row.below ra h1
 replace rb:=Row.below rb h1
 replace ro:=Row.below ro h1
 clear h1
 have sa:=Row.cells2 ra
 have sb:=Row.cells2 rb
 have so:=Row.cells2 ro
 go_wp2
 have sB:=hB.size
 refine post_cut (fun X=>Below w.heap.size w X∧Row X w.heap.size (.cells #[.string (S a.num),.string (S (a.den:Int))] 23)∧Row X (w.heap.size+1) (.cells #[.string (S b.num),.string (S (b.den:Int))] 23)∧Row X (w.heap.size+1+1) (.cells #[.string (S q.num),.string (S (q.den:Int))] 23)) ⟨C1_hB,C3_ra,C3_rb,C3_ro⟩ ?_
 clear ra
 clear sa
 clear rb
 clear sb
 clear ro
 clear so
 clear hB sB
 rintro V5 ⟨hB,ra,rb,ro⟩
 have sa:=Row.cells2 ra
 have sb:=Row.cells2 rb
 have so:=Row.cells2 ro
 refine bodyPost_ret (v := .tuple #[.agg #[.string (S q.num),.string (S (q.den:Int))],.int .i64 0]) ?res rfl ⟨rfl,hB⟩
 case res=>simp [results,Tryz.results136, go_sem,so]
theorem rqmul {j k:Nat} {a b:Rat} (ha:QDig j a) (hb:QDig k b) (hjk:j+k≤200) (w:World):Calls Tryz.prog 178 #[Q a,Q b] w (QOk (a * b) w):=by
 have hB:Below w.heap.size w w:=Below.refl _ _
 have ha':=ha.mono (show j≤200 by omega)
 have hb':=hb.mono (show k≤200 by omega)
 have ia:=is_S a.num
 have ib:=is_S b.num
 have ja:=is_S (a.den:Int)
 have jb:=is_S (b.den:Int)
 have fa:Fits a.num:=ha'.1
 have fb:Fits b.num:=hb'.1
 have ga:Fits (a.den:Int):=ha'.2
 have gb:Fits (b.den:Int):=hb'.2
 have QV1:=fun W=>rqvalid a ha' W
 have QV2:=fun W=>rqvalid b hb' W
 have dn:=ha.1.mul hb.1
 have dd:=ha.2.mul hb.2
 have d0:0<(a.den:Int) * (b.den:Int):=Int.mul_pos (den_pos a) (den_pos b)
 have M1:=fun W=>rmulS ia ib (Lib.hid rfl) fa fb (dn.fits (by omega)) W
 have M2:=fun W=>rmulS ja jb (Lib.hid rfl) ga gb (dd.fits (by omega)) W
 have M3:=fun W=>rqmake (is_S _) (is_S _) (dn.fits (by omega)) (dd.fits (by omega)) d0 W
 rw [mul_parts] at M3
 unfold QOk at *
 unfold StrOk at M1 M2
 clear dn dd d0 ha hb hjk ia ib ja jb fa fb ga gb
 clear ha' hb'
 generalize a * b=q at *
 generalize S (a.num * b.num)=sx at *
 generalize S ((a.den:Int) * (b.den:Int))=sd at *
 unfold Q at *
 go_enter Tryz.func178, Tryz.ntmps178
 go_wp2_with fail
 have sB:=hB.size
 refine world_cut (fun X=>Below w.heap.size w X∧Row X w.heap.size (.cells #[.string (S a.num),.string (S (a.den:Int))] 23)∧Row X (w.heap.size+1) (.cells #[.string (S b.num),.string (S (b.den:Int))] 23)∧Row X (w.heap.size+1+1) (.cells #[.string ⟨#[]⟩,.string ⟨#[]⟩] 23)) ⟨C1_hB,C2,C2,C2⟩ ?_
 clear hB sB
 rintro V1 ⟨hB,ra,rb,ro⟩
 have sa:=Row.cells2 ra
 have sb:=Row.cells2 rb
 have so:=Row.cells2 ro
 refine (QV1 _).mono ?_
 rintro e W2 ⟨rfl,h1⟩
 clear sa
 clear sb
 clear so
 replace hB:=hB.trans (h1.mono hB.size)
 replace ra:=Row.below ra h1
 replace rb:=Row.below rb h1
 replace ro:=Row.below ro h1
 clear h1
 have sa:=Row.cells2 ra
 have sb:=Row.cells2 rb
 have so:=Row.cells2 ro
 go_wp2_with fail
 refine (QV2 _).mono ?_
 rintro e W3 ⟨rfl,h1⟩
 clear sa
 clear sb
 clear so
 replace hB:=hB.trans (h1.mono hB.size)
 replace ra:=Row.below ra h1
 replace rb:=Row.below rb h1
 replace ro:=Row.below ro h1
 clear h1
 have sa:=Row.cells2 ra
 have sb:=Row.cells2 rb
 have so:=Row.cells2 ro
 go_wp2_with fail
 refine (M1 _).mono ?_
 rintro e W4 ⟨rfl,h1⟩
 clear sa
 clear sb
 clear so
 replace hB:=hB.trans (h1.mono hB.size)
 replace ra:=Row.below ra h1
 replace rb:=Row.below rb h1
 replace ro:=Row.below ro h1
 clear h1
 have sa:=Row.cells2 ra
 have sb:=Row.cells2 rb
 have so:=Row.cells2 ro
 go_wp2_with fail
 refine (M2 _).mono ?_
 rintro e W5 ⟨rfl,h1⟩
 clear sa
 clear sb
 clear so
 replace hB:=hB.trans (h1.mono hB.size)
 replace ra:=Row.below ra h1
 replace rb:=Row.below rb h1
 replace ro:=Row.below ro h1
 clear h1
 have sa:=Row.cells2 ra
 have sb:=Row.cells2 rb
 have so:=Row.cells2 ro
 go_wp2_with fail
 refine (M3 _).mono ?_
 rintro e W6 ⟨rfl,h1⟩
 clear sa
 clear sb
 clear so
 replace hB:=hB.trans (h1.mono hB.size)
 replace ra:=Row.below ra h1
 replace rb:=Row.below rb h1
 replace ro:=Row.below ro h1
 clear h1
 have sa:=Row.cells2 ra
 have sb:=Row.cells2 rb
 have so:=Row.cells2 ro
 go_wp2
 have sB:=hB.size
 refine post_cut (fun X=>Below w.heap.size w X∧Row X w.heap.size (.cells #[.string (S a.num),.string (S (a.den:Int))] 23)∧Row X (w.heap.size+1) (.cells #[.string (S b.num),.string (S (b.den:Int))] 23)∧Row X (w.heap.size+1+1) (.cells #[.string (S q.num),.string (S (q.den:Int))] 23)) ⟨C1_hB,C3_ra,C3_rb,C3_ro⟩ ?_
 clear ra
 clear sa
 clear rb
 clear sb
 clear ro
 clear so
 clear hB sB
 rintro V7 ⟨hB,ra,rb,ro⟩
 have sa:=Row.cells2 ra
 have sb:=Row.cells2 rb
 have so:=Row.cells2 ro
 refine bodyPost_ret (v := .tuple #[.agg #[.string (S q.num),.string (S (q.den:Int))],.int .i64 0]) ?res rfl ⟨rfl,hB⟩
 case res=>simp [results,Tryz.results178, go_sem,so]
end Go.Proofs.YtnokpldomlmamaaGreatDoor
namespace Go.Proofs.YtnokpldomlmamaaGreatDoor
open Go Go.RowKit Go.Lib Go.Shelf
theorem zero_yes (a:ByteArray) (h:(a.toList == [48])=true) (w:World):Calls Tryz.prog 140 #[.string a] w fun e w'=>e = .returned (.string a)∧w'=w:=by
 go_enter Tryz.func140, Tryz.ntmps140
 go_wp2
 go_ret
 exact ⟨rfl,rfl⟩
theorem zero_no (a:ByteArray) (h:(a.toList == [48])=false) (w:World):Calls Tryz.prog 140 #[.string a] w fun e w'=>e = .returned (.string ⟨#[49]⟩)∧w'=w:=by
 go_enter Tryz.func140, Tryz.ntmps140
 go_wp2
 go_ret
 exact ⟨rfl,rfl⟩
theorem rqcompare (a b:Rat) (ha:QDig 200 a) (hb:QDig 200 b) (w:World):Calls Tryz.prog 56 #[Q a,Q b] w (CmpOk (cmpQ a b) w):=by
 have I0:CmpInv (cmpQ a b) 1 a.num a.den b.num b.den:=⟨den_pos a,den_pos b,.inl rfl,by rw [Int.one_mul,cmpQ_parts],ha.1,ha.2,hb.1,hb.2⟩
 have QV1:=fun W=>rqvalid a ha W
 have QV2:=fun W=>rqvalid b hb W
 have hB:Below w.heap.size w w:=Below.refl _ _
 clear ha hb
 generalize cmpQ a b=g at *
 show Calls Tryz.prog 56 #[.agg #[.string (S a.num),.string (S (a.den:Int))],.agg #[.string (S b.num),.string (S (b.den:Int))]] w _
 go_enter Tryz.func56, Tryz.ntmps56
 go_wp2_with fail
 have sB:=hB.size
 refine world_cut (fun X=>Below w.heap.size w X∧Row X w.heap.size (.cells #[.string (S a.num),.string (S (a.den:Int))] 23)∧Row X (w.heap.size+1) (.cells #[.string (S b.num),.string (S (b.den:Int))] 23)) ⟨C1_hB,C2,C2⟩ ?_
 clear hB sB
 rintro V1 ⟨hB,ra,rb⟩
 have sa:=Row.cells2 ra
 have sb:=Row.cells2 rb
 refine (QV1 _).mono ?_
 rintro e W2 ⟨rfl,h1⟩
 clear sa
 clear sb
 replace hB:=hB.trans (h1.mono hB.size)
 replace ra:=Row.below ra h1
 replace rb:=Row.below rb h1
 clear h1
 have sa:=Row.cells2 ra
 have sb:=Row.cells2 rb
 go_wp2_with fail
 refine (QV2 _).mono ?_
 rintro e W3 ⟨rfl,h1⟩
 clear sa
 clear sb
 replace hB:=hB.trans (h1.mono hB.size)
 replace ra:=Row.below ra h1
 replace rb:=Row.below rb h1
 clear h1
 have sa:=Row.cells2 ra
 have sb:=Row.cells2 rb
 go_wp2_with fail
 clear ra rb sa sb QV1 QV2
 go_loopw [7,8,9,10,11] (fun v7 v8 v9 v10 v11 wr=>∃ (s n d m e:Int),v7 = .int .i64 s∧v8 = .string (S n)∧v9 = .string (S d)∧v10 = .string (S m)∧v11 = .string (S e)∧CmpInv g s n d m e∧Below w.heap.size w wr) (fun _ _ v9 _ _ _=>match v9 with | .string t=>(zOf t.data.toList).natAbs | _=>0)
 case atStart=>exact ⟨1,a.num,a.den,b.num,b.den,rfl,rfl,rfl,rfl,rfl,I0,hB⟩
 case round =>
  clear hB I0
  obtain ⟨s,n,d,m,e,rfl,rfl,rfl,rfl,rfl,HI,hB⟩:=hrel
  have hd:=Lib.hid HI.hd
  have hee:=Lib.hid HI.he
  have V:=Lib.hid HI.val
  have hs:=Lib.hid HI.hs
  obtain ⟨fn,fd,fm,fe⟩:Fits n∧Fits d∧Fits m∧Fits e:=⟨HI.fn,HI.fd,HI.fm,HI.fe⟩
  have sl : -1≤s∧s≤1:=by rcases hs.out with h | h <;> omega
  obtain ⟨sl1,sl2⟩:=sl
  clear HI
  obtain ⟨p,hp⟩:∃ p,n / d=p:=⟨_,rfl⟩
  obtain ⟨r,hr⟩:∃ r,n % d=r:=⟨_,rfl⟩
  obtain ⟨q,hq⟩:∃ q,m / e=q:=⟨_,rfl⟩
  obtain ⟨t,ht⟩:∃ t,m % e=t:=⟨_,rfl⟩
  have fp:Fits p:=hp ▸ dig_fits_div fn d
  have fq:Fits q:=hq ▸ dig_fits_div fm e
  have fr:Fits r:=hr ▸ dig_fits_mod fd (by have:=hd.out;omega)
  have ft:Fits t:=ht ▸ dig_fits_mod fe (by have:=hee.out;omega)
  have CR:=Lib.hid (cmp_round (n:=n) (m:=m) hd.out hee.out)
  rw [hp,hr,hq,ht] at CR
  have P1:=Lib.hid hp
  have P2:=Lib.hid hr
  have P3:=Lib.hid hq
  have P4:=Lib.hid ht
  clear hp hr hq ht
  have in_:=is_S n
  have id_:=is_S d
  have im:=is_S m
  have ie:=is_S e
  have ip:=is_S p
  have iq:=is_S q
  go_wp2_with fail
  refine (rdivS in_ id_ P1 P2 fn fd (Lib.hid (by have:=hd.out;omega)) _).mono ?_
  rintro e1 W1 ⟨rfl,h1⟩
  replace hB:=hB.trans (h1.mono hB.size)
  clear h1
  go_wp2_with fail
  refine (rdivS im ie P3 P4 fm fe (Lib.hid (by have:=hee.out;omega)) _).mono ?_
  rintro e1 W2 ⟨rfl,h1⟩
  replace hB:=hB.trans (h1.mono hB.size)
  clear h1
  by_cases c0:p=q
  ·have C0:=Lib.hid c0
   have Z:Hid (cmpZ p q=0):=Lib.hid (cmpZ_eq c0)
   clear c0
   go_wp2_with fail
   refine (rcmpS ip iq Z fp fq _).mono ?_
   rintro e1 W3 ⟨rfl,h1⟩
   replace hB:=hB.trans (h1.mono hB.size)
   clear h1
   by_cases r0:r=0
   ·have z1:=S_eq0 r0
    by_cases t0:t=0
    ·have z2:=S_eq0 t0
     have CC:Hid (cmpZ 0 0=0):=Lib.hid (by decide)
     obtain ⟨v,hv⟩:∃ v,s * 0=v:=⟨_,rfl⟩
     have G:Hid (g=v):=Lib.hid (by rw [← hv,← V.out,CR.out.2.1 C0.out r0 t0])
     have vl : -1≤v∧v≤1:=by rw [← hv];rcases hs.out with h | h <;> omega
     obtain ⟨vl1,vl2⟩:=vl
     have ix:Is (S r) 0:=(by rw [r0];exact is_S 0)
     have iy:Is (S t) 0:=(by rw [t0];exact is_S 0)
     clear r0 t0
     generalize S r=sr at *
     generalize S t=st at *
     go_wp2_with fail
     refine (zero_yes sr z1 _).mono ?_
     rintro e Wz ⟨rfl,rfl⟩
     go_wp2_with fail
     refine (zero_yes st z2 _).mono ?_
     rintro e Wz ⟨rfl,rfl⟩
     go_wp2_with fail
     refine (rcmpS ix iy CC (fits_lit (by decide)) (fits_lit (by decide)) _).mono ?_
     rintro e W5 ⟨rfl,h1⟩
     replace hB:=hB.trans (h1.mono hB.size)
     go_wp2
     go_ret
     exact ⟨by rw [G.out];rfl,hB⟩
    ·have z2:=S_ne0 t0
     have CC:Hid (cmpZ 0 1 = -1):=Lib.hid (by decide)
     obtain ⟨v,hv⟩:∃ v,s * -1=v:=⟨_,rfl⟩
     have G:Hid (g=v):=Lib.hid (by rw [← hv,← V.out,CR.out.2.2.1 C0.out r0 t0])
     have vl : -1≤v∧v≤1:=by rw [← hv];rcases hs.out with h | h <;> omega
     obtain ⟨vl1,vl2⟩:=vl
     have ix:Is (S r) 0:=(by rw [r0];exact is_S 0)
     have iy:Is ⟨#[49]⟩ 1:=is_lit (by decide) (by decide)
     clear r0 t0
     generalize S r=sr at *
     generalize S t=st at *
     go_wp2_with fail
     refine (zero_yes sr z1 _).mono ?_
     rintro e Wz ⟨rfl,rfl⟩
     go_wp2_with fail
     refine (zero_no st z2 _).mono ?_
     rintro e Wz ⟨rfl,rfl⟩
     go_wp2_with fail
     refine (rcmpS ix iy CC (fits_lit (by decide)) (fits_lit (by decide)) _).mono ?_
     rintro e W5 ⟨rfl,h1⟩
     replace hB:=hB.trans (h1.mono hB.size)
     go_wp2
     go_ret
     exact ⟨by rw [G.out];rfl,hB⟩
   ·have z1:=S_ne0 r0
    by_cases t0:t=0
    ·have z2:=S_eq0 t0
     have CC:Hid (cmpZ 1 0=1):=Lib.hid (by decide)
     obtain ⟨v,hv⟩:∃ v,s * 1=v:=⟨_,rfl⟩
     have G:Hid (g=v):=Lib.hid (by rw [← hv,← V.out,CR.out.2.2.2.1 C0.out r0 t0])
     have vl : -1≤v∧v≤1:=by rw [← hv];rcases hs.out with h | h <;> omega
     obtain ⟨vl1,vl2⟩:=vl
     have ix:Is ⟨#[49]⟩ 1:=is_lit (by decide) (by decide)
     have iy:Is (S t) 0:=(by rw [t0];exact is_S 0)
     clear r0 t0
     generalize S r=sr at *
     generalize S t=st at *
     go_wp2_with fail
     refine (zero_no sr z1 _).mono ?_
     rintro e Wz ⟨rfl,rfl⟩
     go_wp2_with fail
     refine (zero_yes st z2 _).mono ?_
     rintro e Wz ⟨rfl,rfl⟩
     go_wp2_with fail
     refine (rcmpS ix iy CC (fits_lit (by decide)) (fits_lit (by decide)) _).mono ?_
     rintro e W5 ⟨rfl,h1⟩
     replace hB:=hB.trans (h1.mono hB.size)
     go_wp2
     go_ret
     exact ⟨by rw [G.out];rfl,hB⟩
    ·have z2:=S_ne0 t0
     have L:=Lib.hid (CR.out.2.2.2.2 C0.out r0 t0)
     clear r0 t0
     obtain ⟨sr,hsr⟩:∃ x,x=S r:=⟨_,rfl⟩
     obtain ⟨st,hst⟩:∃ x,x=S t:=⟨_,rfl⟩
     rw [← hsr] at z1 ⊢
     rw [← hst] at z2 ⊢
     have HR:=Lib.hid hsr
     have HT:=Lib.hid hst
     clear hsr hst
     go_wp2
     obtain rfl:=HR.out
     obtain rfl:=HT.out
     obtain ⟨l1,l2,l3,l4,l5⟩:=L.out
     have NI:CmpInv g (-s) d r e t:=⟨l1,l3,by rcases hs.out with h | h <;> omega,by rw [← V.out,l5];simp [Int.neg_mul,Int.mul_neg],fd,fr,fe,ft⟩
     go_roundw
     case rel=>exact ⟨-s,d,r,e,t,rfl,rfl,rfl,rfl,rfl,NI,hB⟩
     case measure =>
      simp only
      rw [is_S r,is_S d,zOf_itoa,zOf_itoa]
      omega
  ·obtain ⟨c,hc⟩:∃ c,cmpZ p q=c:=⟨_,rfl⟩
   have Z:=Lib.hid hc
   have n0:(c != 0)=true:=by
    rw [← hc];unfold cmpZ;split <;> (try split) <;> first | rfl | omega
   obtain ⟨v,hv⟩:∃ v,s * c=v:=⟨_,rfl⟩
   have G:Hid (g=v):=Lib.hid (by rw [← V.out,CR.out.1 c0,← hv,← hc];rfl)
   have vl : -1≤v∧v≤1:=by
    rw [← hv,← hc];unfold cmpZ;rcases hs.out with h | h <;> rw [h] <;> split <;> (try split) <;> omega
   obtain ⟨vl1,vl2⟩:=vl
   clear c0 hc
   go_wp2_with fail
   refine (rcmpS ip iq Z fp fq _).mono ?_
   rintro e1 W3 ⟨rfl,h1⟩
   replace hB:=hB.trans (h1.mono hB.size)
   clear h1
   generalize S r=sr at *
   generalize S t=st at *
   go_wp2
   go_ret
   exact ⟨by rw [G.out];rfl,hB⟩
end Go.Proofs.YtnokpldomlmamaaGreatDoor
namespace Go.Proofs.YtnokpldomlmamaaGreatDoor
open Go Go.RowKit Go.Lib Go.Shelf
def tailFitT (ops:Array Oper) (n:Nat):Bool :=
 (List.range' n (ops.size - n)).all fun i=>match ops[i]? with | some o=>(List.range i).all fun j=>waitsT ops ops.size o j | none=>false
theorem tailFitT_wait {ops:Array Oper} {n:Nat} (h:tailFitT ops n=true) {i:Nat} {o:Oper} (hi:n≤i) (ho:ops[i]? = some o) {j:Nat} (hj:j<i):waitsT ops ops.size o j=true:=by
 unfold tailFitT at h
 rw [List.all_eq_true] at h
 have hlt:=(Array.getElem?_eq_some_iff.1 ho).1
 have h1:=h i (by rw [List.mem_range'_1];omega)
 rw [ho] at h1
 simp only [List.all_eq_true] at h1
 exact h1 j (List.mem_range.2 hj)
theorem wpAny_seqT {P:Program} {ops:Array Oper} {Q:Exit→Act→World→Prop} {n N:Nat} (hfit:quietFit ops N=true) (htail:tailFitT ops n=true) :
  ∀ (m k fuel:Nat) (listed:Array Bool) (a:Act) (W:World),n≤k→k+m=ops.size→listed.size=ops.size→Closed ops listed→(∀ i,i<k→listed.getD i false=true)→(∀ i,k≤i→listed.getD i false=false)→m≤fuel →
   wpOps P ops Q (List.range' k m) a W→wpAny P .any ops Q fuel listed a W
 | 0,k,fuel,listed,a,W,hn,hk,hs,hc,h1,h2,hf,h=>by
  have hr:Region.ready .any ops listed=[]:=by
   rw [List.eq_nil_iff_forall_not_mem]
   intro i hi
   have h3:=ready_listed hi hs
   obtain ⟨_,o,ho,_⟩:=mem_ready.1 hi
   have:=h1 i (by have:=(Array.getElem?_eq_some_iff.1 ho).1;omega)
   rw [h3] at this;cases this
  cases fuel with
  | zero=>exact ⟨hr,h⟩
  | succ f=>exact ⟨fun _=>h,fun i hi=>(by rw [hr] at hi;cases hi)⟩
 | m+1,k,fuel,listed,a,W,hn,hk,hs,hc,h1,h2,hf,h=>by
  obtain ⟨f,rfl⟩:∃ f,fuel=f+1:=⟨fuel - 1,by omega⟩
  have ho:ops[k]? = some (ops[k]'(by omega)):=by simp [show k<ops.size by omega]
  have hm:k ∈ Region.ready .any ops listed:=by
   refine mem_ready.2 ⟨?_,_,ho,fun e he hb=>h1 _ (quietFit.edge hfit ho he hb)⟩
   have:=h2 k (Nat.le_refl _)
   rw [Array.getD_eq_getD_getElem?] at this ⊢
   have hlt:k<listed.size:=by omega
   rw [Array.getElem?_eq_getElem hlt] at this ⊢
   exact this
  refine ⟨fun hr=>(by rw [hr] at hm;cases hm),fun i hi => ?_⟩
  obtain ⟨_,o,ho',hdep⟩:=mem_ready.1 hi
  have hik:i=k:=by
   rcases Nat.lt_trichotomy i k with hlt | he | hgt
   ·have:=h1 i hlt;rw [ready_listed hi hs] at this;cases this
   ·exact he
   ·have:=waitsT_listed hc ops.size o k hdep (tailFitT_wait htail (by omega) ho' hgt)
    rw [h2 k (Nat.le_refl _)] at this;cases this
  subst hik
  rw [List.range'_succ,wpOps_cons] at h
  refine wpOp_mono (fun a' W' h'=>wpAny_seqT hfit htail m (i+1) f _ a' W' (by omega) (by omega) (by rw [Array.size_setIfInBounds];exact hs) (closed_set hc ho' hdep) (fun j hj => ?_) (fun j hj => ?_) (by omega) h') h
  ·by_cases hji:j=i
   ·subst hji;exact listed_self (by omega)
   ·exact listed_keep (h1 j (by omega))
  ·have:=h2 j (by omega)
   rw [Array.getD_eq_getD_getElem?] at this ⊢
   rw [Array.getElem?_setIfInBounds_ne (by omega)];exact this
/-- **The first n operations are said of by items, and their new blocks lie apart; the others each wait, if need be through others, for all ahead of them.** -/
theorem wp_region_items3 {P:Program} {ops:Array Oper} {Q:Exit→Act→World→Prop} {id:Nat} {tmps:Array Value} {ds:List Deferred} {w:World} (n:Nat) (items:List QItem) (L:List Nat) (hm:P.follows .mixedOrders=true)
  (htail:(tailFitT ops n && quietFit ops tmps.size && decide (n≤ops.size) && decide ((ops.toList.take n).length=items.length))=true) (hL:newDsts (ops.toList.take n)=L) (hmono:itemsMono items) (hall:allItems P ops (ops.toList.take n) items tmps w (ops.toList.take n) items)
  (hdone:∀ W,Below w.heap.size w W→setItems W (fun T=>Apart L T→wpList P ops Q (ops.toList.drop n) ⟨T,ds⟩ W) (ops.toList.take n) items tmps):(Code.region id ops true).wp P Q ⟨tmps,ds⟩ w:=by
 simp only [Bool.and_eq_true,decide_eq_true_eq] at htail
 obtain ⟨⟨⟨h1,hfit⟩,hn⟩,hlen⟩:=htail
 have e:∀ a W,wpOps P ops Q (List.range' n (ops.size - n)) a W=wpList P ops Q (ops.toList.drop n) a W:=fun a W=>by
  have h:=wpOps_eq_wpList (P:=P) (ops:=ops) (Q:=Q) (ops.toList.drop n) n (fun j=>by rw [List.getElem?_drop];simp)
  rw [List.length_drop,Array.length_toList] at h
  rw [h]
 have hallq:allQuiet P ops (ops.toList.take n) (itemSp items) tmps w 0 (ops.toList.take n):=allItems.quiet _ _ 0 hall (fun i=>by simp)
 have hin:∀ (listed:Array Bool),(∀ j,n≤j→listed.getD j false=false)→∀ j (p:Oper),ops[j]? = some p→listed.getD j false=true→p ∈ ops.toList.take n:=by
  intro listed h2 j p hp hl
  have hjn:j<n:=by
   rcases Nat.lt_or_ge j n with h | h
   ·exact h
   ·rw [h2 j h] at hl;cases hl
  refine List.mem_of_getElem? (i:=j) ?_
  rw [List.getElem?_take,if_pos hjn];simpa using hp
 refine wp_region_any hm (wpAny_inv2 (J:=fun listed a W=>QuietAt ops (itemSp items) tmps ds w listed a W∧ApartAt ops listed a W∧Closed ops listed) (C:=[]) hn (fun i o hi ho j hj _=>tailFitT_wait h1 hi ho hj) (fun listed a W h=>h.1.lsize) (fun listed a W h=>h.2.2) ?_ ?_ hfit ops.size _ _ _ ⟨⟨Below.drew (Below.refl _ _),rfl,rfl,by simp,?_,fun _ _=>rfl⟩,⟨?_,?_⟩,?_⟩ (fun i _ => ?_) ?_)
 ·intro listed a W i o hJ h2 hi ho hni hdep
  refine wpOp_mono (fun a' W' h=>⟨h.1,h.2,closed_set hJ.2.2 ho hdep⟩) (quietAt_step2 hmono.get hfit ?_ (hin listed h2) ho hJ.1 hJ.2.1 hni hdep)
  have:=allQuiet.get (ops.toList.take n) 0 hallq i o (by rw [List.getElem?_take,if_pos hi];simpa using ho)
  rwa [Nat.zero_add] at this
 ·intro fuel listed a W hJ h2 h3 hc
  have h3':∀ j,j<n→listed.getD j false=true:=fun j hj=>h3 j hj (by simp)
  refine wpAny_seqT hfit h1 (ops.size - n) n fuel listed a W (Nat.le_refl _) (by omega) hJ.1.lsize hJ.2.2 h3' h2 ?_ ?_
  ·refine Nat.le_trans ?_ hc
   have e2:listed.toList=listed.toList.take n ++ List.replicate (ops.size - n) false:=by
    apply List.ext_getElem?
    intro i
    have hsz:=hJ.1.lsize
    rcases Nat.lt_or_ge i n with hi | hi
    ·rw [List.getElem?_append_left (by simp;omega),List.getElem?_take,if_pos hi]
    ·rw [List.getElem?_append_right (by simp;omega)]
     have hl:(listed.toList.take n).length=n:=by simp;omega
     rw [hl,List.getElem?_replicate]
     have:=h2 i hi
     rw [Array.getD_eq_getD_getElem?] at this
     split
     ·rename_i hlt
      have hlt':i<listed.size:=by omega
      rw [Array.getElem?_eq_getElem hlt'] at this
      simp at this
      simp [hlt',this]
     ·rename_i hge
      simp;omega
   rw [e2,List.count_append,List.count_replicate]
   simp
  ·rw [e]
   have hq:=setItems_done (items:=items) (K:=fun T W=>Apart L T→wpList P ops Q (ops.toList.drop n) ⟨T,ds⟩ W) (ops.toList.take n) items 0 tmps hlen (fun i=>by simp) (hdone W hJ.1.below)
   have h4:=quietDone_use a.tmps (ops.toList.take n) 0 tmps hq hJ.1.size.symm (fun i o t ho ht=>by
    rw [Nat.zero_add]
    rw [List.getElem?_take] at ho
    split at ho
    ·rename_i hi
     exact hJ.1.done i o t (by simpa using ho) ht (h3' i hi)
    ·cases ho) (fun t ht=>hJ.1.same t (fun j p hp hl=>foreign_mem ht (hin listed h2 j p hp hl)))
   have:a=⟨a.tmps,ds⟩:=by rw [← hJ.1.defers]
   rw [this]
   refine h4 ?_
   rw [← hL]
   refine apart_of fun i j o p t s ho hp hno hnp ht hs hne => ?_
   rw [List.getElem?_take] at ho hp
   split at ho
   ·rename_i hi
    split at hp
    ·rename_i hj
     exact hJ.2.1.apart i j o p t s (by simpa using ho) (by simpa using hp) hno hnp ht hs hne (h3' i hi) (h3' j hj)
    ·cases hp
   ·cases ho
 ·intro i o t _ _ h
  rw [Array.getD_eq_getD_getElem?] at h
  by_cases hi:i<ops.size <;> simp [hi] at h
 ·intro i o t _ _ _ h
  rw [Array.getD_eq_getD_getElem?] at h
  by_cases hi:i<ops.size <;> simp [hi] at h
 ·intro i j o p t s _ _ _ _ _ _ _ h
  rw [Array.getD_eq_getD_getElem?] at h
  by_cases hi:i<ops.size <;> simp [hi] at h
 ·intro i o _ h
  rw [Array.getD_eq_getD_getElem?] at h
  by_cases hi:i<ops.size <;> simp [hi] at h
 ·rw [Array.getD_eq_getD_getElem?]
  by_cases hi:i<ops.size <;> simp [hi]
 ·simp
end Go.Proofs.YtnokpldomlmamaaGreatDoor
