/-
 Package rational: the multiples of a grid below and above a fraction. Package enclosure: Round, and Sqrt on a grid.
-/
import Derived.Test.YtnokpldomlmamaaGreatDoorKECompute
import Derived.Test.YtnokpldomlmamaaGreatDoorKEOps
import Derived.Test.YtnokpldomlmamaaGreatDoorKLaw1
import Derived.Test.YtnokpldomlmamaaGreatDoorKQCheck1
import Derived.Test.YtnokpldomlmamaaGreatDoorKQPlain6
import Derived.Test.YtnokpldomlmamaaGreatDoorKRefO
set_option linter.unusedSimpArgs false
set_option linter.unusedVariables false
set_option maxRecDepth 100000
set_option maxHeartbeats 4000000
namespace Go.Proofs.YtnokpldomlmamaaGreatDoor
open Go Go.RowKit Go.Lib Go.Shelf
theorem val10_zeros':∀ p,val10 (List.replicate p 0)=0
 | 0=>rfl
 | p+1=>by rw [List.replicate_succ];show 0+10 * val10 (List.replicate p 0)=0;rw [val10_zeros' p]
/-- 1 with zeros behind it. -/
theorem is_tens (p:Nat):Is ⟨(49 :: List.replicate p 48).toArray⟩ (TT p):=by
 have hs:Small10 (List.replicate p 0 ++ [1]):=Small10.append (fun d hd=>by rw [(List.mem_replicate.1 hd).2];decide) (Small10.mk (by decide) small10_nil)
 have hn:Norm10 (List.replicate p 0 ++ [1]):=⟨hs,by simp⟩
 have h:=tx_itoa false hn
 rw [tx_pre false (by simp)] at h
 have ht:txt10 (List.replicate p 0 ++ [1])=49 :: List.replicate p 48:=by rw [txt10_snoc];simp [txt10]
 have hv:val10 (List.replicate p 0 ++ [1])=10 ^ p:=by rw [val10_snoc,val10_zeros',List.length_replicate,Nat.zero_add,Nat.one_mul]
 rw [ht,hv] at h
 unfold Is TT
 rw [List.toList_toArray]
 simpa [pre] using h
theorem tens_S (p:Nat):(⟨#[49]⟩:ByteArray) ++ ⟨(Lib.repeatL [48] p).toArray⟩=S (TT p):=by
 rw [← (is_tens p).eq,repeat_zeros]
 apply ba_ext
 simp [ByteArray.data_append]
end Go.Proofs.YtnokpldomlmamaaGreatDoor
namespace Go.Proofs.YtnokpldomlmamaaGreatDoor
open Go Go.RowKit Go.Lib Go.Shelf
theorem emusts (s:ByteArray) (w:World):Calls Tryz.prog 212 #[.string s,.int .i64 0] w fun e w'=>e = .returned (.string s)∧Below w.heap.size w w':=by
 have hB:Below w.heap.size w w:=Below.refl _ _
 go_enter Tryz.func212, Tryz.ntmps212
 go_wp2_with fail
 refine (echeck_true _).mono ?_
 rintro e W1 ⟨rfl,h1⟩
 replace hB:=hB.trans (h1.mono hB.size)
 clear h1
 go_wp2
 go_ret
 exact ⟨rfl,hB⟩
theorem egrid (p:Nat) (hp:p≤30) (w:World):Calls Tryz.prog 208 #[.int .i64 (p:Int)] w fun e w'=>e = .returned (.agg #[.int .i64 (p:Int),.string (S (TT p))])∧Below w.heap.size w w':=by
 have hB:Below w.heap.size w w:=Below.refl _ _
 have d1:decide ((0:Int)≤(p:Int))=true:=decide_eq_true (by omega)
 have d2:decide ((p:Int)≤30)=true:=decide_eq_true (by omega)
 have g1:(0:Int)≤(p:Int):=by omega
 have g2:(p:Int)≤30:=by omega
 have RP:=fun W=>Tryz.strings_Repeat ⟨#[48]⟩ p W (by omega) (by simp [ByteArray.size];omega)
 have RPL:=Lib.hid (tens_S p)
 go_enter Tryz.func208, Tryz.ntmps208
 go_wp2_with fail
 have sB:=hB.size
 refine world_cut (fun X=>Below w.heap.size w X∧Row X w.heap.size (.cells #[.int .i64 0,.string ⟨#[]⟩] 218)) ⟨C1_hB,C2⟩ ?_
 clear hB sB
 rintro V1 ⟨hB,ro⟩
 have so:=Row.cells2 ro
 refine (echeck_true _).mono ?_
 rintro e W2 ⟨rfl,h1⟩
 clear so
 replace hB:=hB.trans (h1.mono hB.size)
 replace ro:=Row.below ro h1
 clear h1
 have so:=Row.cells2 ro
 go_wp2_with fail
 refine (RP _).mono ?_
 rintro e W2 ⟨rfl,h1⟩
 clear so
 replace hB:=hB.trans (h1.mono hB.size)
 replace ro:=Row.below ro h1
 clear h1
 have so:=Row.cells2 ro
 obtain ⟨z0,hz0⟩:∃ x:ByteArray,x=⟨(Lib.repeatL [48] p).toArray⟩:=⟨_,rfl⟩
 rw [← hz0]
 have RR:((⟨#[49]⟩:ByteArray) ++ z0)=S (TT p):=by rw [hz0];exact RPL.out
 have zs:z0.size≤30:=by rw [hz0,repeat_zeros];simp [ByteArray.size];omega
 clear hz0
 go_wp2
 have sB:=hB.size
 refine post_cut (fun X=>Below w.heap.size w X∧Row X w.heap.size (.cells #[.int .i64 (p:Int),.string (S (TT p))] 218)) ⟨C1_hB,C3_ro⟩ ?_
 clear ro
 clear so
 clear hB sB
 rintro V3 ⟨hB,ro⟩
 have so:=Row.cells2 ro
 refine bodyPost_ret (v := .agg #[.int .i64 (p:Int),.string (S (TT p))]) ?res rfl ⟨rfl,hB⟩
 case res=>simp [results,Tryz.results208, go_sem,so]
end Go.Proofs.YtnokpldomlmamaaGreatDoor
