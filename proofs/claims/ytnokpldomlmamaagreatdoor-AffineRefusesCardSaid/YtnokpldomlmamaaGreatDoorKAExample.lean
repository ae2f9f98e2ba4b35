/-
 The chapter's examples, and the fixed examples that each affine law checks first.
-/
import Derived.Test.YtnokpldomlmamaaGreatDoorKAMadeW
import Derived.Test.YtnokpldomlmamaaGreatDoorKAMul
import Derived.Test.YtnokpldomlmamaaGreatDoorKASame
set_option linter.unusedSimpArgs false
set_option linter.unusedVariables false
set_option maxRecDepth 100000
set_option maxHeartbeats 16000000
namespace Go.Proofs.YtnokpldomlmamaaGreatDoor
open Go Go.RowKit Go.Lib Go.Shelf
attribute [local go_sem] normalQ
theorem terms2 {T:TypeId} {W:World} {g:Nat} {a b:Rat} (h:Row W g (.cells #[.int .i64 1,.string (S a.num),.string (S (a.den:Int)),.int .i64 2,.string (S b.num),.string (S (b.den:Int))] T)):TAt T W (some ⟨g,0,none⟩) [⟨1,a⟩,⟨2,b⟩] :=
 .inr ⟨g,_,rfl,h,rfl⟩
theorem terms1 {T:TypeId} {W:World} {g:Nat} {a:Rat} (h:Row W g (.cells #[.int .i64 1,.string (S a.num),.string (S (a.den:Int))] T)):TAt T W (some ⟨g,0,none⟩) [⟨1,a⟩] :=
 .inr ⟨g,_,rfl,h,rfl⟩
/-- What ratio hands back. -/
def RatioIs (n d:Int) (q:Rat):Prop:=∀ W:World,Calls Tryz.prog 26 #[.int .i64 n,.int .i64 d] W (QIs q W)
theorem ratio_is {n d:Int} {q:Rat} (h:Rat.divInt n d=q) (hn:IsInt n) (hd:IsInt d) (hd0:0<d):RatioIs n d q:=by
 subst h;exact fun W=>lratio8 hn hd hd0 W
def ExIs (a b:Frm) (w:World) (e:Ending) (w':World):Prop:=∃ p q c d,TAt 62 w' p a.t∧TAt 62 w' q b.t∧e = .returned (.tuple #[FV a p c,FV b q d])∧Below w.heap.size w w'
theorem aexample0 {q10 q1 qh q0 q4 q2:Rat} (M10:RatioIs 10 1 q10) (M1:RatioIs 1 1 q1) (Mh:RatioIs 1 2 qh) (M0:RatioIs 0 1 q0) (M4:RatioIs 4 1 q4) (M2:RatioIs 2 1 q2) (w:World):Calls Tryz.prog 72 #[] w (ExIs ⟨q10,[⟨1,q1⟩,⟨2,qh⟩],q0⟩ ⟨q4,[⟨1,q2⟩],q0⟩ w):=by
 have hB:Below w.heap.size w w:=Below.refl _ _
 unfold RatioIs QIs Q at *
 unfold ExIs FV
 go_enter Tryz.func72, Tryz.ntmps72
 go_wp2_with fail
 have d0_o1:w.heap.size≤w.heap.size:=by have:=hB.size;omega
 have d0_o2:w.heap.size≤w.heap.size+1:=by have:=hB.size;omega
 have sB:=hB.size
 refine world_cut (fun X=>Below w.heap.size w X∧Row X w.heap.size (.cells #[.string ⟨#[]⟩,.string ⟨#[]⟩,.slice none 0 0,.string ⟨#[]⟩,.string ⟨#[]⟩] 58)∧Row X (w.heap.size+1) (.cells #[.string ⟨#[]⟩,.string ⟨#[]⟩,.slice none 0 0,.string ⟨#[]⟩,.string ⟨#[]⟩] 58)) ⟨BW,RW8,RW8⟩ ?_
 clear hB sB
 rintro V1 ⟨hB,ro1,ro2⟩
 have so1:=RFz5 ro1
 have so2:=RFz5 ro2
 refine (M10 _).mono ?_
 rintro e W2 ⟨rfl,h1⟩
 have stp:=St2 hB h1 ro1 ro2;clear hB h1 ro1 so1 ro2 so2
 obtain ⟨hB,ro1,ro2⟩:=stp
 have so1:=RFz5 ro1
 have so2:=RFz5 ro2
 go_wp2_with fail
 refine (M1 _).mono ?_
 rintro e W3 ⟨rfl,h1⟩
 have stp:=St2 hB h1 ro1 ro2;clear hB h1 ro1 so1 ro2 so2
 obtain ⟨hB,ro1,ro2⟩:=stp
 have so1:=RFz5 ro1
 have so2:=RFz5 ro2
 go_wp2_with fail
 refine (Mh _).mono ?_
 rintro e W4 ⟨rfl,h1⟩
 have stp:=St2 hB h1 ro1 ro2;clear hB h1 ro1 so1 ro2 so2
 obtain ⟨hB,ro1,ro2⟩:=stp
 have so1:=RFz5 ro1
 have so2:=RFz5 ro2
 go_wp2_with fail
 have do1_b2:w.heap.size<W4.heap.size:=by omega
 have do2_b2:w.heap.size+1<W4.heap.size:=by omega
 have sB:=hB.size
 refine world_cut (fun X=>Below w.heap.size w X∧Row X w.heap.size (.cells #[.string ⟨#[]⟩,.string ⟨#[]⟩,.slice none 0 0,.string ⟨#[]⟩,.string ⟨#[]⟩] 58)∧Row X (w.heap.size+1) (.cells #[.string ⟨#[]⟩,.string ⟨#[]⟩,.slice none 0 0,.string ⟨#[]⟩,.string ⟨#[]⟩] 58)∧Row X W4.heap.size (.cells #[.int .i64 1,.string (S q1.num),.string (S (q1.den:Int)),.int .i64 2,.string (S qh.num),.string (S (qh.den:Int))] 62)) ⟨BW,RW8,RW8,RW8⟩ ?_
 clear ro1
 clear so1
 clear ro2
 clear so2
 clear hB sB
 rintro V5 ⟨hB,ro1,ro2,rb2⟩
 have so1:=RFz5 ro1
 have so2:=RFz5 ro2
 have sb2:=RF6 rb2
 refine (M0 _).mono ?_
 rintro e W6 ⟨rfl,h1⟩
 have stp:=St3 hB h1 ro1 ro2 rb2;clear hB h1 ro1 so1 ro2 so2 rb2 sb2
 obtain ⟨hB,ro1,ro2,rb2⟩:=stp
 have so1:=RFz5 ro1
 have so2:=RFz5 ro2
 have sb2:=RF6 rb2
 go_wp2_with fail
 have do1_a:w.heap.size<W6.heap.size:=by omega
 have do2_a:w.heap.size+1<W6.heap.size:=by omega
 have sB:=hB.size
 refine world_cut (fun X=>Below w.heap.size w X∧Row X w.heap.size (.cells #[.string ⟨#[]⟩,.string ⟨#[]⟩,.slice none 0 0,.string ⟨#[]⟩,.string ⟨#[]⟩] 58)∧Row X (w.heap.size+1) (.cells #[.string ⟨#[]⟩,.string ⟨#[]⟩,.slice none 0 0,.string ⟨#[]⟩,.string ⟨#[]⟩] 58)∧Row X W4.heap.size (.cells #[.int .i64 1,.string (S q1.num),.string (S (q1.den:Int)),.int .i64 2,.string (S qh.num),.string (S (qh.den:Int))] 62)∧Row X W6.heap.size (.cells #[.string (S q10.num),.string (S (q10.den:Int)),.slice (some ⟨W4.heap.size,0,none⟩) 2 2,.string (S q0.num),.string (S (q0.den:Int))] 58)) ⟨BW,RW8,RW8,RW8,RW8⟩ ?_
 clear ro1
 clear so1
 clear ro2
 clear so2
 clear rb2
 clear sb2
 clear hB sB
 rintro V7 ⟨hB,ro1,ro2,rb2,ra⟩
 have so1:=RFz5 ro1
 have so2:=RFz5 ro2
 have sb2:=RF6 rb2
 have sa:=RF5 ra
 refine (M4 _).mono ?_
 rintro e W8 ⟨rfl,h1⟩
 have stp:=St4 hB h1 ro1 ro2 rb2 ra;clear hB h1 ro1 so1 ro2 so2 rb2 sb2 ra sa
 obtain ⟨hB,ro1,ro2,rb2,ra⟩:=stp
 have so1:=RFz5 ro1
 have so2:=RFz5 ro2
 have sb2:=RF6 rb2
 have sa:=RF5 ra
 go_wp2_with fail
 refine (M2 _).mono ?_
 rintro e W9 ⟨rfl,h1⟩
 have stp:=St4 hB h1 ro1 ro2 rb2 ra;clear hB h1 ro1 so1 ro2 so2 rb2 sb2 ra sa
 obtain ⟨hB,ro1,ro2,rb2,ra⟩:=stp
 have so1:=RFz5 ro1
 have so2:=RFz5 ro2
 have sb2:=RF6 rb2
 have sa:=RF5 ra
 go_wp2_with fail
 have do1_b4:w.heap.size<W9.heap.size:=by omega
 have do2_b4:w.heap.size+1<W9.heap.size:=by omega
 have sB:=hB.size
 refine world_cut (fun X=>Below w.heap.size w X∧Row X w.heap.size (.cells #[.string ⟨#[]⟩,.string ⟨#[]⟩,.slice none 0 0,.string ⟨#[]⟩,.string ⟨#[]⟩] 58)∧Row X (w.heap.size+1) (.cells #[.string ⟨#[]⟩,.string ⟨#[]⟩,.slice none 0 0,.string ⟨#[]⟩,.string ⟨#[]⟩] 58)∧Row X W4.heap.size (.cells #[.int .i64 1,.string (S q1.num),.string (S (q1.den:Int)),.int .i64 2,.string (S qh.num),.string (S (qh.den:Int))] 62)∧Row X W6.heap.size (.cells #[.string (S q10.num),.string (S (q10.den:Int)),.slice (some ⟨W4.heap.size,0,none⟩) 2 2,.string (S q0.num),.string (S (q0.den:Int))] 58)∧Row X W9.heap.size (.cells #[.int .i64 1,.string (S q2.num),.string (S (q2.den:Int))] 62)) ⟨BW,RW8,RW8,RW8,RW8,RW8⟩ ?_
 clear ro1
 clear so1
 clear ro2
 clear so2
 clear rb2
 clear sb2
 clear ra
 clear sa
 clear hB sB
 rintro V10 ⟨hB,ro1,ro2,rb2,ra,rb4⟩
 have so1:=RFz5 ro1
 have so2:=RFz5 ro2
 have sb2:=RF6 rb2
 have sa:=RF5 ra
 have sb4:=RF3 rb4
 refine (M0 _).mono ?_
 rintro e W11 ⟨rfl,h1⟩
 have stp:=St5 hB h1 ro1 ro2 rb2 ra rb4;clear hB h1 ro1 so1 ro2 so2 rb2 sb2 ra sa rb4 sb4
 obtain ⟨hB,ro1,ro2,rb2,ra,rb4⟩:=stp
 have so1:=RFz5 ro1
 have so2:=RFz5 ro2
 have sb2:=RF6 rb2
 have sa:=RF5 ra
 have sb4:=RF3 rb4
 go_wp2_with fail
 have do1_b:w.heap.size<W11.heap.size:=by omega
 have do2_b:w.heap.size+1<W11.heap.size:=by omega
 have sB:=hB.size
 refine wp_cut (fun X=>Below w.heap.size w X∧Row X w.heap.size (.cells #[.string ⟨#[]⟩,.string ⟨#[]⟩,.slice none 0 0,.string ⟨#[]⟩,.string ⟨#[]⟩] 58)∧Row X (w.heap.size+1) (.cells #[.string ⟨#[]⟩,.string ⟨#[]⟩,.slice none 0 0,.string ⟨#[]⟩,.string ⟨#[]⟩] 58)∧Row X W4.heap.size (.cells #[.int .i64 1,.string (S q1.num),.string (S (q1.den:Int)),.int .i64 2,.string (S qh.num),.string (S (qh.den:Int))] 62)∧Row X W6.heap.size (.cells #[.string (S q10.num),.string (S (q10.den:Int)),.slice (some ⟨W4.heap.size,0,none⟩) 2 2,.string (S q0.num),.string (S (q0.den:Int))] 58)∧Row X W9.heap.size (.cells #[.int .i64 1,.string (S q2.num),.string (S (q2.den:Int))] 62)∧Row X W11.heap.size (.cells #[.string (S q4.num),.string (S (q4.den:Int)),.slice (some ⟨W9.heap.size,0,none⟩) 1 1,.string (S q0.num),.string (S (q0.den:Int))] 58)) ⟨BW,RW8,RW8,RW8,RW8,RW8,RW8⟩ ?_
 clear ro1
 clear so1
 clear ro2
 clear so2
 clear rb2
 clear sb2
 clear ra
 clear sa
 clear rb4
 clear sb4
 clear hB sB
 rintro V12 ⟨hB,ro1,ro2,rb2,ra,rb4,rb⟩
 have so1:=RFz5 ro1
 have so2:=RFz5 ro2
 have sb2:=RF6 rb2
 have sa:=RF5 ra
 have sb4:=RF3 rb4
 have sb:=RF5 rb
 go_region_with (first
   | fail)
 all_goals (
  go_wp2_with fail
  have sB:=hB.size
  refine post_cut (fun X=>Below w.heap.size w X∧Row X w.heap.size (.cells #[.string (S q10.num),.string (S (q10.den:Int)),.slice (some ⟨W4.heap.size,0,none⟩) 2 2,.string (S q0.num),.string (S (q0.den:Int))] 58)∧Row X (w.heap.size+1) (.cells #[.string (S q4.num),.string (S (q4.den:Int)),.slice (some ⟨W9.heap.size,0,none⟩) 1 1,.string (S q0.num),.string (S (q0.den:Int))] 58)∧Row X W4.heap.size (.cells #[.int .i64 1,.string (S q1.num),.string (S (q1.den:Int)),.int .i64 2,.string (S qh.num),.string (S (qh.den:Int))] 62)∧Row X W6.heap.size (.cells #[.string (S q10.num),.string (S (q10.den:Int)),.slice (some ⟨W4.heap.size,0,none⟩) 2 2,.string (S q0.num),.string (S (q0.den:Int))] 58)∧Row X W9.heap.size (.cells #[.int .i64 1,.string (S q2.num),.string (S (q2.den:Int))] 62)∧Row X W11.heap.size (.cells #[.string (S q4.num),.string (S (q4.den:Int)),.slice (some ⟨W9.heap.size,0,none⟩) 1 1,.string (S q0.num),.string (S (q0.den:Int))] 58)) ⟨BW,RW8,RW8,RW8,RW8,RW8,RW8⟩ ?_
  clear ro1
  clear so1
  clear ro2
  clear so2
  clear rb2
  clear sb2
  clear ra
  clear sa
  clear rb4
  clear sb4
  clear rb
  clear sb
  clear hB sB
  rintro V13 ⟨hB,ro1,ro2,rb2,ra,rb4,rb⟩
  have so1:=RFz5 ro1
  have so2:=RFz5 ro2
  have sb2:=RF6 rb2
  have sa:=RF5 ra
  have sb4:=RF3 rb4
  have sb:=RF5 rb
  refine bodyPost_ret (v := .tuple #[.agg #[.string (S q10.num),.string (S (q10.den:Int)),.slice (some ⟨W4.heap.size,0,none⟩) 2 2,.string (S q0.num),.string (S (q0.den:Int))],.agg #[.string (S q4.num),.string (S (q4.den:Int)),.slice (some ⟨W9.heap.size,0,none⟩) 1 1,.string (S q0.num),.string (S (q0.den:Int))]]) ?res rfl ⟨_,_,_,_,terms2 rb2,terms1 rb4,rfl,hB⟩
  case res=>simp [results,Tryz.results72, go_sem,so1,so2]
 )
theorem aexample (w:World):Calls Tryz.prog 72 #[] w (ExIs eA eB w) :=
 aexample0 (ratio_is (by decide +kernel) (by decide) (by decide) (by decide)) (ratio_is (by decide +kernel) (by decide) (by decide) (by decide)) (ratio_is (by decide +kernel) (by decide) (by decide) (by decide)) (ratio_is (by decide +kernel) (by decide) (by decide) (by decide)) (ratio_is (by decide +kernel) (by decide) (by decide) (by decide)) (ratio_is (by decide +kernel) (by decide) (by decide) (by decide)) w
end Go.Proofs.YtnokpldomlmamaaGreatDoor
