/-
 The reference implementation of fractions: Valid, Make, Of, Add, Sub, Mul. The affine laws and their reference: indices, fractions, values and sources that integers determine. The chapter's examples, and the fixed examples that each affine law checks first.
-/
import Derived.Test.YtdikaoahgleffaaGreatDoorWAAt
import Derived.Test.YtdikaoahgleffaaGreatDoorWAComb
import Derived.Test.YtdikaoahgleffaaGreatDoorWALine
import Derived.Test.YtdikaoahgleffaaGreatDoorWALinear
import Derived.Test.YtdikaoahgleffaaGreatDoorWASame
import Derived.Test.YtdikaoahgleffaaGreatDoorWEValid
import Derived.Test.YtdikaoahgleffaaGreatDoorWEnv8
import Derived.Test.YtdikaoahgleffaaGreatDoorWQPlain6
import Derived.Test.YtdikaoahgleffaaGreatDoorWRefFrom
set_option linter.unusedSimpArgs false
set_option linter.unusedVariables false
set_option maxRecDepth 100000
set_option maxHeartbeats 16000000
namespace Go.Proofs.YtdikaoahgleffaaGreatDoor
open Go Go.RowKit Go.Lib Go.Shelf
theorem chk_str {z:Int} {w w':World} {e:Ending} (hf:Fits z) (h:ChkOk z w e w'):StrOk z w e w':=by
 unfold ChkOk at h;rw [tText_fit hf,tErr_fit hf] at h;exact h
theorem raddS {a b:ByteArray} {x y z:Int} (ha:Is a x) (hb:Is b y) (hz:Hid (x+y=z)) (hx:Fits x) (hy:Fits y) (hf:Fits z) (w:World) :
  Calls Tryz.prog 152 #[.string a,.string b] w (StrOk z w):=(radd_any ha hb hz hx hy w).mono fun _ _ h=>chk_str hf h
theorem rsubS {a b:ByteArray} {x y z:Int} (ha:Is a x) (hb:Is b y) (hz:Hid (x - y=z)) (hx:Fits x) (hy:Fits y) (hf:Fits z) (w:World) :
  Calls Tryz.prog 142 #[.string a,.string b] w (StrOk z w):=(rsub_any ha hb hz hx hy w).mono fun _ _ h=>chk_str hf h
theorem rmulS {a b:ByteArray} {x y z:Int} (ha:Is a x) (hb:Is b y) (hz:Hid (x * y=z)) (hx:Fits x) (hy:Fits y) (hf:Fits z) (w:World) :
  Calls Tryz.prog 151 #[.string a,.string b] w (StrOk z w):=(rmul_any ha hb hz hx hy w).mono fun _ _ h=>chk_str hf h
theorem rvalidB {a:ByteArray} {z:Int} (h:Is a z) (hf:Fits z) (w:World):Calls Tryz.prog 140 #[.string a] w (BoolOk true w) :=
 (rvalid_is h hf w).mono fun _ _ h=>⟨h.1,by rw [h.2];exact Below.refl _ _⟩
theorem rqvalid (q:Rat) (h:QDig 200 q) (w:World):Calls Tryz.prog 146 #[Q q] w (BoolOk true w):=by
 have hB:Below w.heap.size w w:=Below.refl _ _;have hn:=is_S q.num;have hd:=is_S (q.den:Int);have fn:Fits q.num:=h.1;have fd:Fits (q.den:Int):=h.2;have i0:Is ⟨#[48]⟩ 0:=is_zero;have f0:Fits 0:=fits_zero;have C:Hid (cmpZ (q.den:Int) 0=1):=Lib.hid (cmpZ_gt (den_pos q));have G:Hid (((q.num.natAbs.gcd (q.den:Int).natAbs:Nat):Int)=1):=Lib.hid (by rw [rat_parts];rfl);have M1:=fun W=>rvalidB hn fn W
 have M2:=fun W=>rvalidB hd fd W
 have M3:=fun W=>rcmpS hd i0 C fd f0 W
 have M4:=fun W=>rgcdS hn hd G fn fd W
 unfold StrOk at M4;rw [S_one] at M4;clear hn hd fn fd i0 f0 C G h;unfold Q;generalize S q.num=sn at *;generalize S (q.den:Int)=sd at *;go_enter Tryz.func146, Tryz.ntmps146;go_wp2_with fail;have sB:=hB.size;refine world_cut (fun X=>Below w.heap.size w X∧Row X w.heap.size (.cells #[.string sn,.string sd] 27)) ⟨C1_hB,C2⟩ ?_;clear hB sB;rintro V1 ⟨hB,rq⟩;have sq:=Row.cells2 rq;refine (M1 _).mono ?_;rintro e W2 ⟨rfl,h1⟩;clear sq;replace hB:=hB.trans (h1.mono hB.size);replace rq:=Row.below rq h1;clear h1;have sq:=Row.cells2 rq;go_wp2_with fail;refine (M2 _).mono ?_;rintro e W3 ⟨rfl,h1⟩;clear sq;replace hB:=hB.trans (h1.mono hB.size);replace rq:=Row.below rq h1;clear h1;have sq:=Row.cells2 rq;go_wp2_with fail;refine (M3 _).mono ?_;rintro e W4 ⟨rfl,h1⟩;clear sq;replace hB:=hB.trans (h1.mono hB.size);replace rq:=Row.below rq h1;clear h1;have sq:=Row.cells2 rq;go_wp2_with fail;refine (M4 _).mono ?_;rintro e W5 ⟨rfl,h1⟩;clear sq;replace hB:=hB.trans (h1.mono hB.size);replace rq:=Row.below rq h1;clear h1;have sq:=Row.cells2 rq;go_wp2;go_ret;exact ⟨rfl,hB⟩
theorem rqmake {a b:ByteArray} {n d:Int} (ha:Is a n) (hb:Is b d) (hn:Fits n) (hd:Fits d) (hd0:0<d) (w:World):Calls Tryz.prog 87 #[.string a,.string b] w (QOk (Rat.divInt n d) w):=by
 have hB:Below w.heap.size w w:=Below.refl _ _;have i0:Is ⟨#[48]⟩ 0:=is_zero;have f0:Fits 0:=fits_zero;have nz:(b.toList == [48])=false:=by rw [hb.eq];exact S_ne0 (by omega)
 have C:Hid (cmpZ d 0=1):=Lib.hid (cmpZ_gt hd0);obtain ⟨g,hg⟩:∃ g:Int,g=((n.natAbs.gcd d.natAbs:Nat):Int):=⟨_,rfl⟩
 have G:=Lib.hid hg.symm;have fg:Fits g:=by rw [hg];exact gcd_fits hn hd
 have g0:Hid (g≠0):=Lib.hid (by rw [hg];exact gcd_pos' (by omega));have ig:=is_S g;obtain ⟨r1,r2⟩:=reduced_parts (n:=n) hd0;rw [← hg] at r1 r2;have R1:=Lib.hid r1.symm;have R2:=Lib.hid r2.symm;clear r1 r2 hg hd0;generalize Rat.divInt n d=q at *;have M1:=fun W=>rvalidB ha hn W
 have M2:=fun W=>rvalidB hb hd W
 have M3:=fun W=>rcmpS hb i0 C hd f0 W
 have M4:=fun W=>rgcdS ha hb G hn hd W
 have M5:=fun W=>rdivS ha ig R1 (Lib.hid rfl) hn fg g0 W
 have M6:=fun W=>rdivS hb ig R2 (Lib.hid rfl) hd fg g0 W
 unfold DivOk at M5 M6;unfold StrOk at M4;clear i0 f0 C G fg g0 ig R1 R2 ha hb hn hd;unfold QOk Q;go_enter Tryz.func87, Tryz.ntmps87;go_wp2_with fail;have sB:=hB.size;refine world_cut (fun X=>Below w.heap.size w X∧Row X w.heap.size oR0) ⟨C1_hB,C2⟩ ?_;clear hB sB;rintro V1 ⟨hB,ro⟩;have so:=Row.cells2 ro;refine (M1 _).mono ?_;rintro e W2 ⟨rfl,h1⟩;clear so;replace hB:=hB.trans (h1.mono hB.size);replace ro:=Row.below ro h1;clear h1;have so:=Row.cells2 ro;go_wp2_with fail;refine (M2 _).mono ?_;rintro e W3 ⟨rfl,h1⟩;clear so;replace hB:=hB.trans (h1.mono hB.size);replace ro:=Row.below ro h1;clear h1;have so:=Row.cells2 ro;go_wp2_with fail;refine (M3 _).mono ?_;rintro e W4 ⟨rfl,h1⟩;clear so;replace hB:=hB.trans (h1.mono hB.size);replace ro:=Row.below ro h1;clear h1;have so:=Row.cells2 ro;go_wp2_with fail;refine (M4 _).mono ?_;rintro e W5 ⟨rfl,h1⟩;clear so;replace hB:=hB.trans (h1.mono hB.size);replace ro:=Row.below ro h1;clear h1;have so:=Row.cells2 ro;go_wp2_with fail;refine (M5 _).mono ?_;rintro e W6 ⟨rfl,h1⟩;clear so;replace hB:=hB.trans (h1.mono hB.size);replace ro:=Row.below ro h1;clear h1;have so:=Row.cells2 ro;go_wp2_with fail;refine (M6 _).mono ?_;rintro e W7 ⟨rfl,h1⟩;clear so;replace hB:=hB.trans (h1.mono hB.size);replace ro:=Row.below ro h1;clear h1;have so:=Row.cells2 ro;go_wp2;have sB:=hB.size;refine post_cut (fun X=>Below w.heap.size w X∧Row X w.heap.size (oR q)) ⟨C1_hB,C3_ro⟩ ?_;clear ro so hB sB;rintro V8 ⟨hB,ro⟩
 have so:=Row.cells2 ro;refine bodyPost_ret (v := .tuple #[.agg #[.string (S q.num),.string (S (q.den:Int))],.int .i64 0]) ?res rfl ⟨rfl,hB⟩
 case res=>simp [results,Tryz.results87, go_sem,so]
theorem rqof {n d:Int} (hn:IsInt n) (hd:IsInt d) (hd0:0<d) (w:World):Calls Tryz.prog 30 #[.int .i64 n,.int .i64 d] w (QOk (Rat.divInt n d) w):=by
 have hB:Below w.heap.size w w:=Below.refl _ _;have M1:=fun W=>rfromIntS (Lib.hid hn) W
 have M2:=fun W=>rfromIntS (Lib.hid hd) W
 have M3:=fun W=>rqmake (is_S n) (is_S d) ((dig_int hn).fits (by omega)) ((dig_int hd).fits (by omega)) hd0 W
 unfold FromOk at M1 M2;unfold QOk at *;generalize Rat.divInt n d=q at *;clear hn hd hd0;unfold Q at *;go_enter Tryz.func30, Tryz.ntmps30;go_wp2_with fail;have sB:=hB.size;refine world_cut (fun X=>Below w.heap.size w X∧Row X w.heap.size oR0) ⟨C1_hB,C2⟩ ?_;clear hB sB;rintro V1 ⟨hB,ro⟩;have so:=Row.cells2 ro;refine (M1 _).mono ?_;rintro e W2 ⟨rfl,h1⟩;clear so;replace hB:=hB.trans (h1.mono hB.size);replace ro:=Row.below ro h1;clear h1;have so:=Row.cells2 ro;go_wp2_with fail;refine (M2 _).mono ?_;rintro e W3 ⟨rfl,h1⟩;clear so;replace hB:=hB.trans (h1.mono hB.size);replace ro:=Row.below ro h1;clear h1;have so:=Row.cells2 ro;go_wp2_with fail;refine (M3 _).mono ?_;rintro e W4 ⟨rfl,h1⟩;clear so;replace hB:=hB.trans (h1.mono hB.size);replace ro:=Row.below ro h1;clear h1;have so:=Row.cells2 ro;go_wp2;have sB:=hB.size;refine post_cut (fun X=>Below w.heap.size w X∧Row X w.heap.size (oR q)) ⟨C1_hB,C3_ro⟩ ?_;clear ro so hB sB;rintro V5 ⟨hB,ro⟩;have so:=Row.cells2 ro;refine bodyPost_ret (v := .tuple #[.agg #[.string (S q.num),.string (S (q.den:Int))],.int .i64 0]) ?res rfl ⟨rfl,hB⟩
 case res=>simp [results,Tryz.results30, go_sem,so]
theorem rcross {a b:Rat} {x y d:Int} (ha':QDig 200 a) (hb':QDig 200 b) (hx:Hid (a.num * (b.den:Int)=x)) (hy:Hid (b.num * (a.den:Int)=y)) (hd:Hid ((a.den:Int) * (b.den:Int)=d)) (fx:Fits x) (fy:Fits y) (fd:Fits d) (w:World) :
  Calls Tryz.prog 150 #[Q a,Q b] w fun e w'=>e = .returned (.tuple #[.string (S x),.string (S y),.string (S d),.bool true])∧Below w.heap.size w w':=by
 have hB:Below w.heap.size w w:=Below.refl _ _;have ia:=is_S a.num;have ib:=is_S b.num;have ja:=is_S (a.den:Int);have jb:=is_S (b.den:Int);have fa:Fits a.num:=ha'.1;have fb:Fits b.num:=hb'.1;have ga:Fits (a.den:Int):=ha'.2;have gb:Fits (b.den:Int):=hb'.2;have QV1:=fun W=>rqvalid a ha' W
 have QV2:=fun W=>rqvalid b hb' W
 have M1:=fun W=>rmulS ia jb hx fa gb fx W
 have M2:=fun W=>rmulS ib ja hy fb ga fy W
 have M3:=fun W=>rmulS ja jb hd ga gb fd W
 unfold StrOk at M1 M2 M3;clear ia ib ja jb fa fb ga gb hx hy hd fx fy fd;clear ha' hb';unfold Q at *;generalize S x=sx at *;generalize S y=sy at *;generalize S d=sd at *;go_enter Tryz.func150, Tryz.ntmps150;go_wp2_with fail;have sB:=hB.size;refine world_cut (fun X=>Below w.heap.size w X∧Row X w.heap.size (.cells #[.string (S a.num),.string (S (a.den:Int))] 27)∧Row X (w.heap.size+1) (.cells #[.string (S b.num),.string (S (b.den:Int))] 27)) ⟨C1_hB,C2,C2⟩ ?_;clear hB sB;rintro V1 ⟨hB,ra,rb⟩;have sa:=Row.cells2 ra;have sb:=Row.cells2 rb;refine (QV1 _).mono ?_;rintro e W2 ⟨rfl,h1⟩;clear sa sb;replace hB:=hB.trans (h1.mono hB.size);replace ra:=Row.below ra h1;replace rb:=Row.below rb h1;clear h1;have sa:=Row.cells2 ra;have sb:=Row.cells2 rb;go_wp2_with fail;refine (QV2 _).mono ?_;rintro e W3 ⟨rfl,h1⟩;clear sa sb;replace hB:=hB.trans (h1.mono hB.size);replace ra:=Row.below ra h1;replace rb:=Row.below rb h1;clear h1;have sa:=Row.cells2 ra;have sb:=Row.cells2 rb;go_wp2_with fail;refine (M1 _).mono ?_;rintro e W4 ⟨rfl,h1⟩;clear sa sb;replace hB:=hB.trans (h1.mono hB.size);replace ra:=Row.below ra h1;replace rb:=Row.below rb h1;clear h1;have sa:=Row.cells2 ra;have sb:=Row.cells2 rb;go_wp2_with fail;refine (M2 _).mono ?_;rintro e W5 ⟨rfl,h1⟩;clear sa sb;replace hB:=hB.trans (h1.mono hB.size);replace ra:=Row.below ra h1;replace rb:=Row.below rb h1;clear h1;have sa:=Row.cells2 ra;have sb:=Row.cells2 rb
 go_wp2_with fail;refine (M3 _).mono ?_;rintro e W6 ⟨rfl,h1⟩;clear sa sb;replace hB:=hB.trans (h1.mono hB.size);replace ra:=Row.below ra h1;replace rb:=Row.below rb h1;clear h1;have sa:=Row.cells2 ra;have sb:=Row.cells2 rb;go_wp2;refine bodyPost_ret (v := .tuple #[.string sx,.string sy,.string sd,.bool true]) ?res rfl ⟨rfl,hB⟩
 case res=>simp [results,Tryz.results150, go_sem]
theorem rqadd {j k:Nat} {a b:Rat} (ha:QDig j a) (hb:QDig k b) (hjk:j+k+1≤200) (w:World):Calls Tryz.prog 100 #[Q a,Q b] w (QOk (a+b) w):=by
 have hB:Below w.heap.size w w:=Below.refl _ _;have dx:=ha.1.mul hb.2;have dy:Dig (j+k) (b.num * (a.den:Int)):=by rw [Nat.add_comm];exact hb.1.mul ha.2
 have dd:=ha.2.mul hb.2;have dn:=dx.add dy;have d0:0<(a.den:Int) * (b.den:Int):=Int.mul_pos (den_pos a) (den_pos b);have M1:=fun W=>rcross (ha.mono (show j≤200 by omega)) (hb.mono (show k≤200 by omega)) (Lib.hid rfl) (Lib.hid rfl) (Lib.hid rfl) (dx.fits (by omega)) (dy.fits (by omega)) (dd.fits (by omega)) W
 have M2:=fun W=>raddS (is_S _) (is_S _) (Lib.hid rfl) (dx.fits (by omega)) (dy.fits (by omega)) (dn.fits (by omega)) W
 have M3:=fun W=>rqmake (is_S _) (is_S _) (dn.fits (by omega)) (dd.fits (by omega)) d0 W
 rw [add_parts] at M3;unfold QOk at *;unfold StrOk at M2;clear dx dy dd dn d0 ha hb hjk;generalize a+b=q at *;generalize S (a.num * (b.den:Int)+b.num * (a.den:Int))=sn at *;generalize S (a.num * (b.den:Int))=sx at *;generalize S (b.num * (a.den:Int))=sy at *;generalize S ((a.den:Int) * (b.den:Int))=sd at *;unfold Q at *;go_enter Tryz.func100, Tryz.ntmps100;go_wp2_with fail;have sB:=hB.size;refine world_cut (fun X=>Below w.heap.size w X∧Row X w.heap.size (.cells #[.string (S a.num),.string (S (a.den:Int))] 27)∧Row X (w.heap.size+1) (.cells #[.string (S b.num),.string (S (b.den:Int))] 27)∧Row X (w.heap.size+1+1) (.cells #[.string ⟨#[]⟩,.string ⟨#[]⟩] 27)) ⟨C1_hB,C2,C2,C2⟩ ?_;clear hB sB;rintro V1 ⟨hB,ra,rb,ro⟩;have sa:=Row.cells2 ra;have sb:=Row.cells2 rb;have so:=Row.cells2 ro;refine (M1 _).mono ?_;rintro e W2 ⟨rfl,h1⟩;clear sa sb so;replace hB:=hB.trans (h1.mono hB.size);replace ra:=Row.below ra h1;replace rb:=Row.below rb h1;replace ro:=Row.below ro h1;clear h1;have sa:=Row.cells2 ra;have sb:=Row.cells2 rb;have so:=Row.cells2 ro;go_wp2_with fail;refine (M2 _).mono ?_;rintro e W3 ⟨rfl,h1⟩;clear sa sb so;replace hB:=hB.trans (h1.mono hB.size);replace ra:=Row.below ra h1;replace rb:=Row.below rb h1;replace ro:=Row.below ro h1;clear h1;have sa:=Row.cells2 ra;have sb:=Row.cells2 rb;have so:=Row.cells2 ro;go_wp2_with fail;refine (M3 _).mono ?_;rintro e W4 ⟨rfl,h1⟩
 clear sa sb so;replace hB:=hB.trans (h1.mono hB.size);replace ra:=Row.below ra h1;replace rb:=Row.below rb h1;replace ro:=Row.below ro h1;clear h1;have sa:=Row.cells2 ra;have sb:=Row.cells2 rb;have so:=Row.cells2 ro;go_wp2;have sB:=hB.size;refine post_cut (kp2 hB ra rb fun X=>Row X (w.heap.size+1+1) (.cells #[.string (S q.num),.string (S (q.den:Int))] 27)) ⟨C1_hB,C3_ra,C3_rb,C3_ro⟩ ?_;unfold kp2;clear ra sa rb sb ro so hB sB;rintro V5 ⟨hB,ra,rb,ro⟩;have sa:=Row.cells2 ra;have sb:=Row.cells2 rb;have so:=Row.cells2 ro;refine bodyPost_ret (v := .tuple #[.agg #[.string (S q.num),.string (S (q.den:Int))],.int .i64 0]) ?res rfl ⟨rfl,hB⟩
 case res=>simp [results,Tryz.results100, go_sem,so]
theorem rqsub {j k:Nat} {a b:Rat} (ha:QDig j a) (hb:QDig k b) (hjk:j+k+1≤200) (w:World):Calls Tryz.prog 97 #[Q a,Q b] w (QOk (a - b) w):=by
 have hB:Below w.heap.size w w:=Below.refl _ _;have dx:=ha.1.mul hb.2;have dy:Dig (j+k) (b.num * (a.den:Int)):=by rw [Nat.add_comm];exact hb.1.mul ha.2
 have dd:=ha.2.mul hb.2;have dn:=dx.sub dy;have d0:0<(a.den:Int) * (b.den:Int):=Int.mul_pos (den_pos a) (den_pos b);have M1:=fun W=>rcross (ha.mono (show j≤200 by omega)) (hb.mono (show k≤200 by omega)) (Lib.hid rfl) (Lib.hid rfl) (Lib.hid rfl) (dx.fits (by omega)) (dy.fits (by omega)) (dd.fits (by omega)) W
 have M2:=fun W=>rsubS (is_S _) (is_S _) (Lib.hid rfl) (dx.fits (by omega)) (dy.fits (by omega)) (dn.fits (by omega)) W
 have M3:=fun W=>rqmake (is_S _) (is_S _) (dn.fits (by omega)) (dd.fits (by omega)) d0 W
 rw [sub_parts] at M3;unfold QOk at *;unfold StrOk at M2;clear dx dy dd dn d0 ha hb hjk;generalize a - b=q at *;generalize S (a.num * (b.den:Int) - b.num * (a.den:Int))=sn at *;generalize S (a.num * (b.den:Int))=sx at *;generalize S (b.num * (a.den:Int))=sy at *;generalize S ((a.den:Int) * (b.den:Int))=sd at *;unfold Q at *;go_enter Tryz.func97, Tryz.ntmps97;go_wp2_with fail;have sB:=hB.size;refine world_cut (fun X=>Below w.heap.size w X∧Row X w.heap.size (.cells #[.string (S a.num),.string (S (a.den:Int))] 27)∧Row X (w.heap.size+1) (.cells #[.string (S b.num),.string (S (b.den:Int))] 27)∧Row X (w.heap.size+1+1) (.cells #[.string ⟨#[]⟩,.string ⟨#[]⟩] 27)) ⟨C1_hB,C2,C2,C2⟩ ?_;clear hB sB;rintro V1 ⟨hB,ra,rb,ro⟩;have sa:=Row.cells2 ra;have sb:=Row.cells2 rb;have so:=Row.cells2 ro;refine (M1 _).mono ?_;rintro e W2 ⟨rfl,h1⟩;clear sa sb so;replace hB:=hB.trans (h1.mono hB.size);replace ra:=Row.below ra h1;replace rb:=Row.below rb h1;replace ro:=Row.below ro h1;clear h1;have sa:=Row.cells2 ra;have sb:=Row.cells2 rb;have so:=Row.cells2 ro;go_wp2_with fail;refine (M2 _).mono ?_;rintro e W3 ⟨rfl,h1⟩;clear sa sb so;replace hB:=hB.trans (h1.mono hB.size);replace ra:=Row.below ra h1;replace rb:=Row.below rb h1;replace ro:=Row.below ro h1;clear h1;have sa:=Row.cells2 ra;have sb:=Row.cells2 rb;have so:=Row.cells2 ro;go_wp2_with fail;refine (M3 _).mono ?_;rintro e W4 ⟨rfl,h1⟩
 clear sa sb so;replace hB:=hB.trans (h1.mono hB.size);replace ra:=Row.below ra h1;replace rb:=Row.below rb h1;replace ro:=Row.below ro h1;clear h1;have sa:=Row.cells2 ra;have sb:=Row.cells2 rb;have so:=Row.cells2 ro;go_wp2;have sB:=hB.size;refine post_cut (kp2 hB ra rb fun X=>Row X (w.heap.size+1+1) (.cells #[.string (S q.num),.string (S (q.den:Int))] 27)) ⟨C1_hB,C3_ra,C3_rb,C3_ro⟩ ?_;unfold kp2;clear ra sa rb sb ro so hB sB;rintro V5 ⟨hB,ra,rb,ro⟩;have sa:=Row.cells2 ra;have sb:=Row.cells2 rb;have so:=Row.cells2 ro;refine bodyPost_ret (v := .tuple #[.agg #[.string (S q.num),.string (S (q.den:Int))],.int .i64 0]) ?res rfl ⟨rfl,hB⟩
 case res=>simp [results,Tryz.results97, go_sem,so]
theorem rqmul {j k:Nat} {a b:Rat} (ha:QDig j a) (hb:QDig k b) (hjk:j+k≤200) (w:World):Calls Tryz.prog 99 #[Q a,Q b] w (QOk (a * b) w):=by
 have hB:Below w.heap.size w w:=Below.refl _ _;have ha':=ha.mono (show j≤200 by omega);have hb':=hb.mono (show k≤200 by omega);have ia:=is_S a.num;have ib:=is_S b.num;have ja:=is_S (a.den:Int);have jb:=is_S (b.den:Int);have fa:Fits a.num:=ha'.1;have fb:Fits b.num:=hb'.1;have ga:Fits (a.den:Int):=ha'.2;have gb:Fits (b.den:Int):=hb'.2;have QV1:=fun W=>rqvalid a ha' W
 have QV2:=fun W=>rqvalid b hb' W
 have dn:=ha.1.mul hb.1;have dd:=ha.2.mul hb.2;have d0:0<(a.den:Int) * (b.den:Int):=Int.mul_pos (den_pos a) (den_pos b);have M1:=fun W=>rmulS ia ib (Lib.hid rfl) fa fb (dn.fits (by omega)) W
 have M2:=fun W=>rmulS ja jb (Lib.hid rfl) ga gb (dd.fits (by omega)) W
 have M3:=fun W=>rqmake (is_S _) (is_S _) (dn.fits (by omega)) (dd.fits (by omega)) d0 W
 rw [mul_parts] at M3;unfold QOk at *;unfold StrOk at M1 M2;clear dn dd d0 ha hb hjk ia ib ja jb fa fb ga gb;clear ha' hb';generalize a * b=q at *;generalize S (a.num * b.num)=sx at *;generalize S ((a.den:Int) * (b.den:Int))=sd at *;unfold Q at *;go_enter Tryz.func99, Tryz.ntmps99;go_wp2_with fail;have sB:=hB.size;refine world_cut (fun X=>Below w.heap.size w X∧Row X w.heap.size (.cells #[.string (S a.num),.string (S (a.den:Int))] 27)∧Row X (w.heap.size+1) (.cells #[.string (S b.num),.string (S (b.den:Int))] 27)∧Row X (w.heap.size+1+1) (.cells #[.string ⟨#[]⟩,.string ⟨#[]⟩] 27)) ⟨C1_hB,C2,C2,C2⟩ ?_;clear hB sB;rintro V1 ⟨hB,ra,rb,ro⟩;have sa:=Row.cells2 ra;have sb:=Row.cells2 rb;have so:=Row.cells2 ro;refine (QV1 _).mono ?_;rintro e W2 ⟨rfl,h1⟩;clear sa sb so;replace hB:=hB.trans (h1.mono hB.size);replace ra:=Row.below ra h1;replace rb:=Row.below rb h1;replace ro:=Row.below ro h1;clear h1;have sa:=Row.cells2 ra;have sb:=Row.cells2 rb;have so:=Row.cells2 ro;go_wp2_with fail;refine (QV2 _).mono ?_;rintro e W3 ⟨rfl,h1⟩;clear sa sb so;replace hB:=hB.trans (h1.mono hB.size);replace ra:=Row.below ra h1;replace rb:=Row.below rb h1;replace ro:=Row.below ro h1;clear h1;have sa:=Row.cells2 ra;have sb:=Row.cells2 rb;have so:=Row.cells2 ro;go_wp2_with fail;refine (M1 _).mono ?_;rintro e W4 ⟨rfl,h1⟩;clear sa sb so;replace hB:=hB.trans (h1.mono hB.size);replace ra:=Row.below ra h1
 replace rb:=Row.below rb h1;replace ro:=Row.below ro h1;clear h1;have sa:=Row.cells2 ra;have sb:=Row.cells2 rb;have so:=Row.cells2 ro;go_wp2_with fail;refine (M2 _).mono ?_;rintro e W5 ⟨rfl,h1⟩;clear sa sb so;replace hB:=hB.trans (h1.mono hB.size);replace ra:=Row.below ra h1;replace rb:=Row.below rb h1;replace ro:=Row.below ro h1;clear h1;have sa:=Row.cells2 ra;have sb:=Row.cells2 rb;have so:=Row.cells2 ro;go_wp2_with fail;refine (M3 _).mono ?_;rintro e W6 ⟨rfl,h1⟩;clear sa sb so;replace hB:=hB.trans (h1.mono hB.size);replace ra:=Row.below ra h1;replace rb:=Row.below rb h1;replace ro:=Row.below ro h1;clear h1;have sa:=Row.cells2 ra;have sb:=Row.cells2 rb;have so:=Row.cells2 ro;go_wp2;have sB:=hB.size;refine post_cut (kp2 hB ra rb fun X=>Row X (w.heap.size+1+1) (.cells #[.string (S q.num),.string (S (q.den:Int))] 27)) ⟨C1_hB,C3_ra,C3_rb,C3_ro⟩ ?_;unfold kp2;clear ra sa rb sb ro so hB sB;rintro V7 ⟨hB,ra,rb,ro⟩;have sa:=Row.cells2 ra;have sb:=Row.cells2 rb;have so:=Row.cells2 ro;refine bodyPost_ret (v := .tuple #[.agg #[.string (S q.num),.string (S (q.den:Int))],.int .i64 0]) ?res rfl ⟨rfl,hB⟩
 case res=>simp [results,Tryz.results99, go_sem,so]
end Go.Proofs.YtdikaoahgleffaaGreatDoor
namespace Go.Proofs.YtdikaoahgleffaaGreatDoor
open Go Go.RowKit Go.Lib Go.Shelf
attribute [local go_sem] normalQ
theorem pick8 (c n:Int) (hc:IsInt c) (hn:0<n) (w:World):Calls Tryz.prog 31 #[.int .i64 c,.int .i64 n] w fun e w'=>e = .returned (.int .i64 (pk c n))∧Below w.heap.size w w':=by
 obtain ⟨c0,c1⟩:=hc;have nz:¬ n=0:=by omega
 by_cases h:c<0
 ·have e : -((c+1).tmod n)=pk c n:=by unfold pk;rw [if_pos h,← Int.neg_tmod,Int.tmod_eq_emod_of_nonneg (by omega)]
  have E:=Lib.hid e;clear e;go_enter Tryz.func31, Tryz.ntmps31;go_wp2;go_ret;refine ⟨?_,Below.refl _ _⟩;rw [← E.out];rfl
 ·have e:c.tmod n=pk c n:=by unfold pk;rw [if_neg h,Int.tmod_eq_emod_of_nonneg (by omega)]
  have E:=Lib.hid e;clear e;go_enter Tryz.func31, Tryz.ntmps31;go_wp2;go_ret;refine ⟨?_,Below.refl _ _⟩;rw [← E.out]
  first | rfl | (rw [Int.tmod_eq_emod_of_nonneg (by omega)];rfl)
theorem pickL8 (c n:Int) (hc:IsInt c) (hn:0<n) (w:World):Calls Tryz.prog 9 #[.int .i64 c,.int .i64 n] w fun e w'=>e = .returned (.int .i64 (pk c n))∧Below w.heap.size w w':=by
 obtain ⟨c0,c1⟩:=hc;have nz:¬ n=0:=by omega
 by_cases h:c<0
 ·have e : -((c+1).tmod n)=pk c n:=by unfold pk;rw [if_pos h,← Int.neg_tmod,Int.tmod_eq_emod_of_nonneg (by omega)]
  have E:=Lib.hid e;clear e;go_enter Tryz.func9, Tryz.ntmps9;go_wp2;go_ret;refine ⟨?_,Below.refl _ _⟩;rw [← E.out];rfl
 ·have e:c.tmod n=pk c n:=by unfold pk;rw [if_neg h,Int.tmod_eq_emod_of_nonneg (by omega)]
  have E:=Lib.hid e;clear e;go_enter Tryz.func9, Tryz.ntmps9;go_wp2;go_ret;refine ⟨?_,Below.refl _ _⟩;rw [← E.out]
  first | rfl | (rw [Int.tmod_eq_emod_of_nonneg (by omega)];rfl)
theorem lratio8 {n d:Int} (hn:IsInt n) (hd:IsInt d) (hd0:0<d) (w:World):Calls Tryz.prog 8 #[.int .i64 n,.int .i64 d] w (QIs (Rat.divInt n d) w):=by
 have hB:Below w.heap.size w w:=Below.refl _ _;have M:=fun W=>rqof hn hd hd0 W
 unfold QOk Q at M;unfold QIs Q;generalize Rat.divInt n d=q at *;clear hn hd hd0;go_enter Tryz.func8, Tryz.ntmps8;go_wp2_with fail;have d0_o:w.heap.size≤w.heap.size:=by have:=hB.size;omega
 have sB:=hB.size;refine world_cut (fun X=>Below w.heap.size w X∧Row X w.heap.size oR0) ⟨BW,RW8⟩ ?_;clear hB sB;rintro V1 ⟨hB,ro⟩;have so:=RFz2 ro;refine (M _).mono ?_;rintro e W2 ⟨rfl,h1⟩;have stp:=St1 hB h1 ro;clear hB h1 ro so;obtain ⟨hB,ro⟩:=stp;have so:=RFz2 ro;go_wp2_with fail;have sB:=hB.size;refine post_cut (fun X=>Below w.heap.size w X∧Row X w.heap.size (oR q)) ⟨BW,RW8⟩ ?_;clear ro so hB sB;rintro V3 ⟨hB,ro⟩;have so:=RFz2 ro;refine bodyPost_ret (v := .agg #[.string (S q.num),.string (S (q.den:Int))]) ?res rfl ⟨rfl,hB⟩
 case res=>simp [results,Tryz.results8, go_sem,so]
theorem six_get (x:Nat→Int) {i:Nat} (hi:i<6):(#[.int .i64 (x 0),.int .i64 (x 1),.int .i64 (x 2),.int .i64 (x 3),.int .i64 (x 4),.int .i64 (x 5)]:Array Value)[i]? = some (.int .i64 (x i)):=by
 rcases (show i=0∨i=1∨i=2∨i=3∨i=4∨i=5 by omega) with rfl | rfl | rfl | rfl | rfl | rfl <;> rfl
def ListCap (T:TypeId) (l:List Trm) (w:World) (e:Ending) (w':World):Prop:=∃ p c,TAt T w' p l∧l.length≤c∧e = .returned (.slice p l.length c)∧Below w.heap.size w w'
theorem own_cap {W:World} {n0 k m c n:Nat} {T:TypeId} {p:Option Addr} {xs:List Value} (h:W.ownsRow n0 T k (.slice p m c) n xs):m≤c:=by
 rcases h.2 with ⟨e,_⟩ | ⟨g,cap,cur,e,_,_,h1,_⟩ <;> (injection e with _ e1 e2;omega)
abbrev OTT (T:TypeId) (W:World) (n0:Nat) (p:Option Addr) (c:Nat) (l:List Trm):Prop:=W.ownsRow n0 T 3 (.slice p l.length c) l.length (uCells (raws l))
theorem OTT.later {T:TypeId} {W W':World} {n0:Nat} {p:Option Addr} {c:Nat} {l:List Trm} (h:OTT T W n0 p c l) (hB:Below W.heap.size W W'):OTT T W' n0 p c l:=own_later h hB
theorem r8values (x:Nat→Int) (hx:∀ i,i<6→IsInt (x i)) (w:World):Calls Tryz.prog 6 #[.agg #[.int .i64 (x 0),.int .i64 (x 1),.int .i64 (x 2),.int .i64 (x 3),.int .i64 (x 4),.int .i64 (x 5)]] w (ListCap 55 (vTo x 6) w):=by
 have hB:Below w.heap.size w w:=Below.refl _ _;unfold ListCap;go_enter Tryz.func6, Tryz.ntmps6;go_wp2_with fail;have sB:=hB.size;refine wp_cut (fun X=>Below w.heap.size w X∧Row X w.heap.size (.cells #[.int .i64 (x 0),.int .i64 (x 1),.int .i64 (x 2),.int .i64 (x 3),.int .i64 (x 4),.int .i64 (x 5)] 22)) ⟨BW,RW8⟩ ?_;clear hB sB;rintro V1 ⟨hB,rx⟩;have sx:=RF6 rx;clear sx;obtain ⟨xs,hxs⟩:∃ z:Array Value,z=#[.int .i64 (x 0),.int .i64 (x 1),.int .i64 (x 2),.int .i64 (x 3),.int .i64 (x 4),.int .i64 (x 5)]:=⟨_,rfl⟩
 rw [← hxs] at rx;have HXS:=Lib.hid hxs;clear hxs;go_loopw [3,4] (fun v3 v4 wr=>∃ (i c:Nat) (p:Option Addr),v3 = .slice p (vTo x i).length c∧v4 = .int .i64 (i:Int)∧i≤6∧OTT 55 wr (w.heap.size+1) p c (vTo x i)∧Below w.heap.size w wr∧Row wr w.heap.size (.cells xs 22)) (fun _ v4 _=>(6 - RowKit.intOf v4).toNat)
 case atStart=>exact ⟨0,0,none,rfl,rfl,by omega,⟨rfl,.inl ⟨rfl,rfl⟩⟩,hB,rx⟩
 case round =>
  clear hB rx;obtain ⟨i,c,p,rfl,rfl,hi6,hown,hB,rx⟩:=hrel;rcases Nat.lt_or_ge i 6 with hlt | hge
  ·have hxi:xs[i]? = some (.int .i64 (x i)):=by rw [HXS.out];exact six_get x hlt
   have hiI:(i:Int)<6:=by omega
   have hlen:(vTo x i).length=i:=vTo_len x i;have hl2:(vTo x i).length≤100000:=by omega
   have hsuc:=vTo_succ x i;have MP:=fun W=>pick8 (x i) 17 (hx i hlt) (by decide) W
   have a1:=pk_nonneg (x i) (n:=17) (by decide);have a2:=pk_lt (x i) (n:=17) (by decide);generalize pk (x i) 17=k at *;have MO:=fun W=>rqof (n:=k - 8) (d:=8) ⟨by omega,by omega⟩ (by decide) (by decide) W
   unfold QOk Q at MO;generalize Rat.divInt (k - 8) 8=q at *;have hs:((i+1:Nat):Int)=1+(i:Int):=by omega
   have HSUC:=Lib.hid hsuc;have HLEN:=Lib.hid hlen;clear hsuc hlen;have Fx:∀ X,Row X w.heap.size (.cells xs 22)→(w.heap.size<X.heap.size∧X.cell? ⟨w.heap.size,i,none⟩=some (.int .i64 (x i))):=fun X h=>⟨h.1,Row.cell_at h _ hxi⟩
   have sx:=Fx _ rx;go_wp2_with fail;refine (MP _).mono ?_;rintro e W2 ⟨rfl,h1⟩;replace hown:=OTT.later hown h1;have stp:=St1 hB h1 rx;clear hB h1 rx sx;obtain ⟨hB,rx⟩:=stp;have sx:=Fx _ rx;go_wp2_with fail;refine (MO _).mono ?_;rintro e W3 ⟨rfl,h1⟩;replace hown:=OTT.later hown h1;have stp:=St1 hB h1 rx;clear hB h1 rx sx;obtain ⟨hB,rx⟩:=stp;have sx:=Fx _ rx;go_upto_region 6 with fail;have dx_r:w.heap.size<W3.heap.size:=by omega
   have d0_r:w.heap.size≤W3.heap.size:=by have:=hB.size;omega
   have sB:=hB.size;refine wp_cut (fun X=>Below w.heap.size w X∧Row X w.heap.size (.cells xs 22)∧Row X W3.heap.size (oR q)∧OTT 55 X (w.heap.size+1) p c (vTo x i)) ⟨BW,RW8,RW8,OW⟩ ?_;clear rx sx hB sB hown;rintro V4 ⟨hB,rx,rr,hown⟩;have sx:=Fx _ rx;have sr:=RFz2 rr;go_wp2_with (at_builtin;refine wpl_append_term rfl (.tmp 20) (.tmp 25) rfl (w.heap.size+1) p c (vTo x i) ⟨i+1,q⟩ rfl (World.ownsRow.alloc hown _) _ rfl (by rw [hs];exact row_new _ _) hl2 (by simp;have:=hB.size;omega) ?_;intro p' c' W7 hown' hg';replace rx:=own_row_ne (World.ownsRow.alloc hown _) hg' (Row.alloc rx _) (by omega);replace hB:=Below.grown (hB.alloc hB.size _) hg' (by simp;have:=hB.size;omega) (fun k hk=>by have:=(World.ownsRow.lt hown k hk).1;omega);clear hg' hown);go_wp2;go_roundw
   case rel=>exact ⟨i+1,c',p',by rw [HSUC.out];simp only [List.length_append,List.length_cons,List.length_nil,Nat.zero_add],by go_num,by omega,by rw [HSUC.out];exact hown',BW,rx⟩
   case measure=>simp [RowKit.intOf];omega
  ·obtain rfl:i=6:=by omega
   go_wp2;go_ret;exact ⟨p,c,own_uat hown (raws_length _),own_cap hown,rfl,hB⟩
theorem r8made {c0 r0:Int} (hc:IsInt c0) (hr:IsInt r0) (x:Nat→Int) (hx:∀ i,i<6→IsInt (x i)) (w:World):Calls Tryz.prog 29 #[.int .i64 c0,.int .i64 r0,.agg #[.int .i64 (x 0),.int .i64 (x 1),.int .i64 (x 2),.int .i64 (x 3),.int .i64 (x 4),.int .i64 (x 5)]] w (FIs (mForm c0 r0 x) w):=by
 have hB:Below w.heap.size w w:=Below.refl _ _;have P1:=fun W=>pick8 c0 161 hc (by decide) W
 have a1:=pk_nonneg c0 (n:=161) (by decide);have a2:=pk_lt c0 (n:=161) (by decide);have P2:=fun W=>pick8 r0 9 hr (by decide) W
 have b1:=pk_nonneg r0 (n:=9) (by decide);have b2:=pk_lt r0 (n:=9) (by decide);unfold FIs FV mForm;generalize pk c0 161=kc at *;generalize pk r0 9=kr at *;have O1:=fun W=>rqof (n:=kc - 80) (d:=4) ⟨by omega,by omega⟩ (by decide) (by decide) W
 have O2:=fun W=>rqof (n:=kr) (d:=4) ⟨by omega,by omega⟩ (by decide) (by decide) W
 unfold QOk Q at O1 O2;generalize Rat.divInt (kc - 80) 4=qc at *;generalize Rat.divInt kr 4=qr at *;clear hc hr;go_enter Tryz.func29, Tryz.ntmps29;go_wp2_with fail;have d0_o:w.heap.size≤w.heap.size+1:=by have:=hB.size;omega
 have d0_f:w.heap.size≤w.heap.size+1+1:=by have:=hB.size;omega
 have sB:=hB.size;refine world_cut (fun X=>Below w.heap.size w X∧Row X w.heap.size (.cells #[.int .i64 (x 0),.int .i64 (x 1),.int .i64 (x 2),.int .i64 (x 3),.int .i64 (x 4),.int .i64 (x 5)] 22)∧Row X (w.heap.size+1) oF0∧Row X (w.heap.size+1+1) oF0) ⟨BW,RW8,RW8,RW8⟩ ?_;clear hB sB;rintro V1 ⟨hB,rx,ro,rf⟩;have sx:=RF6 rx;have so:=RFz5 ro;have sf:=RFz5 rf;refine (P1 _).mono ?_;rintro e W2 ⟨rfl,h1⟩;have stp:=St3 hB h1 rx ro rf;clear hB h1 rx sx ro so rf sf;obtain ⟨hB,rx,ro,rf⟩:=stp;have sx:=RF6 rx;have so:=RFz5 ro;have sf:=RFz5 rf;go_wp2_with fail;refine (O1 _).mono ?_;rintro e W3 ⟨rfl,h1⟩;have stp:=St3 hB h1 rx ro rf;clear hB h1 rx sx ro so rf sf;obtain ⟨hB,rx,ro,rf⟩:=stp;have sx:=RF6 rx;have so:=RFz5 ro;have sf:=RFz5 rf;go_wp2_with fail;have sB:=hB.size;refine world_cut (kp2 hB rx ro fun X=>Row X (w.heap.size+1+1) (.cells #[.string (S qc.num),.string (S (qc.den:Int)),.slice none 0 0,.string ⟨#[]⟩,.string ⟨#[]⟩] 30)) ⟨BW,RW8,RW8,RW8⟩ ?_;unfold kp2;clear rx sx ro so rf sf hB sB;rintro V4 ⟨hB,rx,ro,rf⟩;have sx:=RF6 rx;have so:=RFz5 ro;have sf:=RFz5 rf;refine (P2 _).mono ?_;rintro e W5 ⟨rfl,h1⟩;have stp:=St3 hB h1 rx ro rf;clear hB h1 rx sx ro so rf sf;obtain ⟨hB,rx,ro,rf⟩:=stp;have sx:=RF6 rx;have so:=RFz5 ro;have sf:=RFz5 rf;go_wp2_with fail;refine (O2 _).mono ?_;rintro e W6 ⟨rfl,h1⟩;have stp:=St3 hB h1 rx ro rf;clear hB h1 rx sx ro so rf sf;obtain ⟨hB,rx,ro,rf⟩:=stp;have sx:=RF6 rx;have so:=RFz5 ro;have sf:=RFz5 rf;go_wp2_with fail;have sB:=hB.size;refine wp_cut (kp2 hB rx ro fun X=>Row X (w.heap.size+1+1) (oF qc qr none 0 0)) ⟨BW,RW8,RW8,RW8⟩ ?_;unfold kp2
 clear rx sx ro so rf sf hB sB;rintro V7 ⟨hB,rx,ro,rf⟩;have sx:=RF6 rx;have so:=RFz5 ro;have sf:=RFz5 rf;clear sx so sf;obtain ⟨xs,hxs⟩:∃ z:Array Value,z=#[.int .i64 (x 0),.int .i64 (x 1),.int .i64 (x 2),.int .i64 (x 3),.int .i64 (x 4),.int .i64 (x 5)]:=⟨_,rfl⟩
 rw [← hxs] at rx;have HXS:=Lib.hid hxs;clear hxs a1 a2 b1 b2;have lf:=rf.1;have lo_:=ro.1;have lx:=rx.1;obtain ⟨n0,hn0e⟩:∃ z,z=V7.heap.size:=⟨_,rfl⟩
 have hbf0:w.heap.size+1+1<n0:=by omega
 have hbx0:w.heap.size<n0:=by omega
 have hbo0:w.heap.size+1<n0:=by omega
 have hn0:n0≤V7.heap.size:=by omega
 clear lf lo_ lx hn0e;go_loopw [8] (fun v8 wr=>∃ (i c:Nat) (p:Option Addr),v8 = .int .i64 (i:Int)∧i≤6∧OT wr n0 p c (mTo x i)∧n0≤wr.heap.size∧Below w.heap.size w wr∧Row wr w.heap.size (.cells xs 22)∧Row wr (w.heap.size+1) oF0∧Row wr (w.heap.size+1+1) (.cells #[.string (S qc.num),.string (S (qc.den:Int)),.slice p (mTo x i).length c,.string (S qr.num),.string (S (qr.den:Int))] 30)) (fun v8 _=>(6 - RowKit.intOf v8).toNat)
 case atStart=>exact ⟨0,0,none,rfl,by omega,OT.nil _ _,hn0,hB,rx,ro,rf⟩
 case round =>
  clear hB rx ro rf hn0;obtain ⟨i,c,p,rfl,hi6,hown,hn0,hB,rx,ro,rf⟩:=hrel;rcases Nat.lt_or_ge i 6 with hlt | hge
  ·have hxi:xs[i]? = some (.int .i64 (x i)):=by rw [HXS.out];exact six_get x hlt
   have hiI:(i:Int)<6:=by omega
   have hl5:=mTo_len x i;have hl2:(mTo x i).length≤100000:=by omega
   have MP:=fun W=>pick8 (x i) 17 (hx i hlt) (by decide) W
   have a1:=pk_nonneg (x i) (n:=17) (by decide);have a2:=pk_lt (x i) (n:=17) (by decide);have hsuc:mTo x (i+1)=if pk (x i) 17 - 8≠0∧(mTo x i).length<5 then mTo x i ++ [⟨i+1,Rat.divInt (pk (x i) 17 - 8) 4⟩] else mTo x i:=rfl
   generalize pk (x i) 17=k at *;have MO:=fun W=>rqof (n:=k - 8) (d:=4) ⟨by omega,by omega⟩ (by decide) (by decide) W
   unfold QOk Q at MO;generalize Rat.divInt (k - 8) 4=q at *;have hs:((i+1:Nat):Int)=1+(i:Int):=by omega
   obtain ⟨g,hg⟩:∃ g,k - 8=g:=⟨_,rfl⟩
   rw [hg] at hsuc MO;have HSUC:=Lib.hid hsuc;clear hsuc;have Fx:∀ X,Row X w.heap.size (.cells xs 22)→(w.heap.size<X.heap.size∧X.cell? ⟨w.heap.size,i,none⟩=some (.int .i64 (x i))):=fun X h=>⟨h.1,Row.cell_at h _ hxi⟩
   have sx:=Fx _ rx;have so:=RFz5 ro;have sf:=RFz5 rf;go_wp2_with fail;refine (MP _).mono ?_;rintro e W8 ⟨rfl,h1⟩;replace hown:=OT.later hown h1;replace hn0:=le_below hn0 h1;have stp:=St3 hB h1 rx ro rf;clear hB h1 rx sx ro so rf sf;obtain ⟨hB,rx,ro,rf⟩:=stp;have sx:=Fx _ rx;have so:=RFz5 ro;have sf:=RFz5 rf;by_cases hz:g=0
   ·have HZ:=Lib.hid hz;subst hz;have hsame:mTo x (i+1)=mTo x i:=by rw [HSUC.out,if_neg (fun h=>h.1 rfl)]
    go_wp2;go_roundw
    case rel=>exact ⟨i+1,c,p,by go_num,by omega,by rw [hsame];exact OW,(by first | omega | (simp;omega)),BW,RW8,RW8,by rw [hsame];exact RW8⟩
    case measure=>simp [RowKit.intOf];omega
   ·have hzb:(g == 0)=false:=beq_eq_false_iff_ne.2 hz;rcases Nat.lt_or_ge (mTo x i).length 5 with h5 | h5
    ·have h5I:((mTo x i).length:Int)<5:=by omega
     have happ:mTo x (i+1)=mTo x i ++ [⟨i+1,q⟩]:=by rw [HSUC.out,if_pos ⟨hz,h5⟩]
     have HAPP:=Lib.hid happ;clear happ;go_wp2_with fail;refine (MO _).mono ?_;rintro e W9 ⟨rfl,h1⟩;replace hown:=OT.later hown h1;replace hn0:=le_below hn0 h1;have stp:=St3 hB h1 rx ro rf;clear hB h1 rx sx ro so rf sf;obtain ⟨hB,rx,ro,rf⟩:=stp;have sx:=Fx _ rx;have so:=RFz5 ro;have sf:=RFz5 rf;go_upto_region 10 with fail;have dx_r:w.heap.size<W9.heap.size:=by omega
     have do_r:w.heap.size+1<W9.heap.size:=by omega
     have df_r:w.heap.size+1+1<W9.heap.size:=by omega
     have d0_r:w.heap.size≤W9.heap.size:=by have:=hB.size;omega
     have sB:=hB.size;refine wp_cut (fun X=>Below w.heap.size w X∧Row X w.heap.size (.cells xs 22)∧Row X (w.heap.size+1) oF0∧Row X (w.heap.size+1+1) (.cells #[.string (S qc.num),.string (S (qc.den:Int)),.slice p (mTo x i).length c,.string (S qr.num),.string (S (qr.den:Int))] 30)∧Row X W9.heap.size (oR q)∧OT X n0 p c (mTo x i)∧n0≤X.heap.size) ⟨BW,RW8,RW8,RW8,RW8,OW,(by first | omega | (simp;omega))⟩ ?_;clear rx sx ro so rf sf hB sB hown hn0;rintro V10 ⟨hB,rx,ro,rf,rr,hown,hn0⟩;have sx:=Fx _ rx;have so:=RFz5 ro;have sf:=RFz5 rf;have sr:=RFz2 rr;go_wp2_with (at_builtin;refine wpl_append_term rfl (.tmp 51) (.tmp 56) rfl n0 p c (mTo x i) ⟨i+1,q⟩ rfl (World.ownsRow.alloc hown _) _ rfl (by rw [hs];exact row_new _ _) hl2 (by simp;omega) ?_;intro p' c' W7 hown' hg';replace rx:=own_row_ne (World.ownsRow.alloc hown _) hg' (Row.alloc rx _) (by omega);replace ro:=own_row_ne (World.ownsRow.alloc hown _) hg' (Row.alloc ro _) (by omega);replace rf:=own_row_ne (World.ownsRow.alloc hown _) hg' (Row.alloc rf _) (by omega);replace hB:=Below.grown (hB.alloc hB.size _) hg' (by simp;have:=hB.size;omega) (fun k hk=>by have:=(World.ownsRow.lt hown k hk).1;omega);have hn7:n0≤W7.heap.size:=Nat.le_trans (by simp;omega) hg'.size;clear hg' hown hn0;have sf:=RFz5 rf);go_wp2;go_roundw
     case rel=>exact ⟨i+1,c',p',by go_num,by omega,by rw [HAPP.out];exact own_other hown' rf form_ne 2 _,(by simp;omega),BW,RW8,RW8,by rw [HAPP.out];simp only [List.length_append,List.length_cons,List.length_nil,Nat.zero_add];exact RW8⟩
     case measure=>simp [RowKit.intOf];omega
    ·have h5I:¬ ((mTo x i).length:Int)<5:=by omega
     have hsame:mTo x (i+1)=mTo x i:=by rw [HSUC.out,if_neg (fun h=>absurd h.2 (by omega))]
     go_wp2;go_roundw
     case rel=>exact ⟨i+1,c,p,by go_num,by omega,by rw [hsame];exact OW,(by first | omega | (simp;omega)),BW,RW8,RW8,by rw [hsame];exact RW8⟩
     case measure=>simp [RowKit.intOf];omega
  ·obtain rfl:i=6:=by omega
   have Fx:∀ X,Row X w.heap.size (.cells xs 22)→(w.heap.size<X.heap.size):=fun X h=>h.1
   have sx:=Fx _ rx;have so:=RFz5 ro;have sf:=RFz5 rf;go_wp2_with fail;clear Fx;have sB:=hB.size;refine post_cut (fun X=>Below w.heap.size w X∧Row X (w.heap.size+1) (.cells #[.string (S qc.num),.string (S (qc.den:Int)),.slice p (mTo x 6).length c,.string (S qr.num),.string (S (qr.den:Int))] 30)∧OT X n0 p c (mTo x 6)) ⟨BW,RW8,OW⟩ ?_;clear rx sx ro so rf sf hB sB hown;rintro V8 ⟨hB,ro,hown⟩;have so:=RFz5 ro;refine bodyPost_ret (v := .agg #[.string (S qc.num),.string (S (qc.den:Int)),.slice p (mTo x 6).length c,.string (S qr.num),.string (S (qr.den:Int))]) ?res rfl ⟨p,c,OT.tat hown,rfl,hB⟩
   case res=>simp [results,Tryz.results29, go_sem,so]
end Go.Proofs.YtdikaoahgleffaaGreatDoor
namespace Go.Proofs.YtdikaoahgleffaaGreatDoor
open Go Go.RowKit Go.Lib Go.Shelf
attribute [local go_sem] normalQ
theorem terms2 {T:TypeId} {W:World} {g:Nat} {a b:Rat} (h:Row W g (.cells #[.int .i64 1,.string (S a.num),.string (S (a.den:Int)),.int .i64 2,.string (S b.num),.string (S (b.den:Int))] T)):TAt T W (some ⟨g,0,none⟩) [⟨1,a⟩,⟨2,b⟩] :=
 .inr ⟨g,_,rfl,h,rfl⟩
theorem terms1 {T:TypeId} {W:World} {g:Nat} {a:Rat} (h:Row W g (.cells #[.int .i64 1,.string (S a.num),.string (S (a.den:Int))] T)):TAt T W (some ⟨g,0,none⟩) [⟨1,a⟩] :=
 .inr ⟨g,_,rfl,h,rfl⟩
def RatioIs (n d:Int) (q:Rat):Prop:=∀ W:World,Calls Tryz.prog 8 #[.int .i64 n,.int .i64 d] W (QIs q W)
theorem ratio_is {n d:Int} {q:Rat} (h:Rat.divInt n d=q) (hn:IsInt n) (hd:IsInt d) (hd0:0<d):RatioIs n d q:=by
 subst h;exact fun W=>lratio8 hn hd hd0 W
def ExIs (a b:Frm) (w:World) (e:Ending) (w':World):Prop:=∃ p q c d,TAt 55 w' p a.t∧TAt 55 w' q b.t∧e = .returned (.tuple #[FV a p c,FV b q d])∧Below w.heap.size w w'
theorem aexample0 {q10 q1 qh q0 q4 q2:Rat} (M10:RatioIs 10 1 q10) (M1:RatioIs 1 1 q1) (Mh:RatioIs 1 2 qh) (M0:RatioIs 0 1 q0) (M4:RatioIs 4 1 q4) (M2:RatioIs 2 1 q2) (w:World):Calls Tryz.prog 24 #[] w (ExIs ⟨q10,[⟨1,q1⟩,⟨2,qh⟩],q0⟩ ⟨q4,[⟨1,q2⟩],q0⟩ w):=by
 have hB:Below w.heap.size w w:=Below.refl _ _;unfold RatioIs QIs Q at *;unfold ExIs FV;go_enter Tryz.func24, Tryz.ntmps24;go_wp2_with fail;have d0_o1:w.heap.size≤w.heap.size:=by have:=hB.size;omega
 have d0_o2:w.heap.size≤w.heap.size+1:=by have:=hB.size;omega
 have sB:=hB.size;refine world_cut (fun X=>Below w.heap.size w X∧Row X w.heap.size oF0∧Row X (w.heap.size+1) oF0) ⟨BW,RW8,RW8⟩ ?_;clear hB sB;rintro V1 ⟨hB,ro1,ro2⟩;have so1:=RFz5 ro1;have so2:=RFz5 ro2;refine (M10 _).mono ?_;rintro e W2 ⟨rfl,h1⟩;have stp:=St2 hB h1 ro1 ro2;clear hB h1 ro1 so1 ro2 so2;obtain ⟨hB,ro1,ro2⟩:=stp;have so1:=RFz5 ro1;have so2:=RFz5 ro2;go_wp2_with fail;refine (M1 _).mono ?_;rintro e W3 ⟨rfl,h1⟩;have stp:=St2 hB h1 ro1 ro2;clear hB h1 ro1 so1 ro2 so2;obtain ⟨hB,ro1,ro2⟩:=stp;have so1:=RFz5 ro1;have so2:=RFz5 ro2;go_wp2_with fail;refine (Mh _).mono ?_;rintro e W4 ⟨rfl,h1⟩;have stp:=St2 hB h1 ro1 ro2;clear hB h1 ro1 so1 ro2 so2;obtain ⟨hB,ro1,ro2⟩:=stp;have so1:=RFz5 ro1;have so2:=RFz5 ro2;go_wp2_with fail;have do1_b2:w.heap.size<W4.heap.size:=by omega
 have do2_b2:w.heap.size+1<W4.heap.size:=by omega
 have sB:=hB.size;refine world_cut (kp2 hB ro1 ro2 fun X=>Row X W4.heap.size (.cells #[.int .i64 1,.string (S q1.num),.string (S (q1.den:Int)),.int .i64 2,.string (S qh.num),.string (S (qh.den:Int))] 55)) ⟨BW,RW8,RW8,RW8⟩ ?_;unfold kp2;clear ro1 so1 ro2 so2 hB sB;rintro V5 ⟨hB,ro1,ro2,rb2⟩;have so1:=RFz5 ro1;have so2:=RFz5 ro2;have sb2:=RF6 rb2;refine (M0 _).mono ?_;rintro e W6 ⟨rfl,h1⟩;have stp:=St3 hB h1 ro1 ro2 rb2;clear hB h1 ro1 so1 ro2 so2 rb2 sb2;obtain ⟨hB,ro1,ro2,rb2⟩:=stp;have so1:=RFz5 ro1;have so2:=RFz5 ro2;have sb2:=RF6 rb2;go_wp2_with fail;have do1_a:w.heap.size<W6.heap.size:=by omega
 have do2_a:w.heap.size+1<W6.heap.size:=by omega
 have sB:=hB.size;refine world_cut (kp3 hB ro1 ro2 rb2 fun X=>Row X W6.heap.size (oF q10 q0 (some ⟨W4.heap.size,0,none⟩) 2 2)) ⟨BW,RW8,RW8,RW8,RW8⟩ ?_;unfold kp3;clear ro1 so1 ro2 so2 rb2 sb2 hB sB;rintro V7 ⟨hB,ro1,ro2,rb2,ra⟩;have so1:=RFz5 ro1;have so2:=RFz5 ro2;have sb2:=RF6 rb2;have sa:=RF5 ra;refine (M4 _).mono ?_;rintro e W8 ⟨rfl,h1⟩;have stp:=St4 hB h1 ro1 ro2 rb2 ra;clear hB h1 ro1 so1 ro2 so2 rb2 sb2 ra sa;obtain ⟨hB,ro1,ro2,rb2,ra⟩:=stp;have so1:=RFz5 ro1;have so2:=RFz5 ro2;have sb2:=RF6 rb2;have sa:=RF5 ra;go_wp2_with fail;refine (M2 _).mono ?_;rintro e W9 ⟨rfl,h1⟩;have stp:=St4 hB h1 ro1 ro2 rb2 ra;clear hB h1 ro1 so1 ro2 so2 rb2 sb2 ra sa;obtain ⟨hB,ro1,ro2,rb2,ra⟩:=stp;have so1:=RFz5 ro1;have so2:=RFz5 ro2;have sb2:=RF6 rb2;have sa:=RF5 ra;go_wp2_with fail;have do1_b4:w.heap.size<W9.heap.size:=by omega
 have do2_b4:w.heap.size+1<W9.heap.size:=by omega
 have sB:=hB.size;refine world_cut (kp4 hB ro1 ro2 rb2 ra fun X=>Row X W9.heap.size (oT 1 q2)) ⟨BW,RW8,RW8,RW8,RW8,RW8⟩ ?_;unfold kp4;clear ro1 so1 ro2 so2 rb2 sb2 ra sa hB sB;rintro V10 ⟨hB,ro1,ro2,rb2,ra,rb4⟩;have so1:=RFz5 ro1;have so2:=RFz5 ro2;have sb2:=RF6 rb2;have sa:=RF5 ra;have sb4:=RF3 rb4;refine (M0 _).mono ?_;rintro e W11 ⟨rfl,h1⟩;have stp:=St5 hB h1 ro1 ro2 rb2 ra rb4;clear hB h1 ro1 so1 ro2 so2 rb2 sb2 ra sa rb4 sb4;obtain ⟨hB,ro1,ro2,rb2,ra,rb4⟩:=stp;have so1:=RFz5 ro1;have so2:=RFz5 ro2;have sb2:=RF6 rb2;have sa:=RF5 ra;have sb4:=RF3 rb4;go_wp2_with fail;have do1_b:w.heap.size<W11.heap.size:=by omega
 have do2_b:w.heap.size+1<W11.heap.size:=by omega
 have sB:=hB.size;refine wp_cut (kp5 hB ro1 ro2 rb2 ra rb4 fun X=>Row X W11.heap.size (oF q4 q0 (some ⟨W9.heap.size,0,none⟩) 1 1)) ⟨BW,RW8,RW8,RW8,RW8,RW8,RW8⟩ ?_;unfold kp5;clear ro1 so1 ro2 so2 rb2 sb2 ra sa rb4 sb4 hB sB;rintro V12 ⟨hB,ro1,ro2,rb2,ra,rb4,rb⟩;have so1:=RFz5 ro1;have so2:=RFz5 ro2;have sb2:=RF6 rb2;have sa:=RF5 ra;have sb4:=RF3 rb4;have sb:=RF5 rb;go_region_with (first
   | fail)
 all_goals (
  go_wp2_with fail;have sB:=hB.size;refine post_cut (fun X=>Below w.heap.size w X∧Row X w.heap.size (oF q10 q0 (some ⟨W4.heap.size,0,none⟩) 2 2)∧Row X (w.heap.size+1) (oF q4 q0 (some ⟨W9.heap.size,0,none⟩) 1 1)∧Row X W4.heap.size (.cells #[.int .i64 1,.string (S q1.num),.string (S (q1.den:Int)),.int .i64 2,.string (S qh.num),.string (S (qh.den:Int))] 55)∧Row X W6.heap.size (oF q10 q0 (some ⟨W4.heap.size,0,none⟩) 2 2)∧Row X W9.heap.size (oT 1 q2)∧Row X W11.heap.size (oF q4 q0 (some ⟨W9.heap.size,0,none⟩) 1 1)) ⟨BW,RW8,RW8,RW8,RW8,RW8,RW8⟩ ?_;clear ro1 so1 ro2 so2 rb2 sb2 ra sa rb4 sb4 rb sb hB sB;rintro V13 ⟨hB,ro1,ro2,rb2,ra,rb4,rb⟩;have so1:=RFz5 ro1;have so2:=RFz5 ro2;have sb2:=RF6 rb2;have sa:=RF5 ra;have sb4:=RF3 rb4;have sb:=RF5 rb;refine bodyPost_ret (v := .tuple #[.agg #[.string (S q10.num),.string (S (q10.den:Int)),.slice (some ⟨W4.heap.size,0,none⟩) 2 2,.string (S q0.num),.string (S (q0.den:Int))],.agg #[.string (S q4.num),.string (S (q4.den:Int)),.slice (some ⟨W9.heap.size,0,none⟩) 1 1,.string (S q0.num),.string (S (q0.den:Int))]]) ?res rfl ⟨_,_,_,_,terms2 rb2,terms1 rb4,rfl,hB⟩
  case res=>simp [results,Tryz.results24, go_sem,so1,so2]
 )
theorem aexample (w:World):Calls Tryz.prog 24 #[] w (ExIs eA eB w) :=
 aexample0 (ratio_is (by decide +kernel) (by decide) (by decide) (by decide)) (ratio_is (by decide +kernel) (by decide) (by decide) (by decide)) (ratio_is (by decide +kernel) (by decide) (by decide) (by decide)) (ratio_is (by decide +kernel) (by decide) (by decide) (by decide)) (ratio_is (by decide +kernel) (by decide) (by decide) (by decide)) (ratio_is (by decide +kernel) (by decide) (by decide) (by decide)) w
end Go.Proofs.YtdikaoahgleffaaGreatDoor
