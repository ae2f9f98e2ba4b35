/-
 The fixed examples of the drift laws: what is known of them.
-/
import Derived.Test.YtnokpldomlmamaaGreatDoorODPlain3
set_option linter.unusedSimpArgs false
set_option linter.unusedVariables false
namespace Go.Proofs.YtnokpldomlmamaaGreatDoor
open Go Go.Lib
def sR:Rat:=Rat.divInt 1 10
def sa:Pt:=⟨0,⟨Rat.divInt 5 1,Rat.divInt 6 1⟩⟩
def sb:Pt:=⟨20,⟨Rat.divInt 6 1,Rat.divInt 8 1⟩⟩
def sc:Pt:=⟨10,⟨Rat.divInt 8 1,Rat.divInt 9 1⟩⟩
def so1:Iv:=⟨Rat.divInt 5 1,Rat.divInt 7 1⟩
def so2:Iv:=⟨Rat.divInt 5 1,Rat.divInt 9 1⟩
theorem s_rate:0≤sR:=by unfold sR;decide +kernel
theorem s_rdig:QDig 40 sR:=QDig.mono (j:=2) (by unfold QDig Dig sR;decide +kernel) (by omega)
theorem s_iv:∀ p,p ∈ [sa,sb,sc]→p.t≤1000000∧p.iv.Ok∧IDig 40 p.iv:=by
 intro p hp
 simp only [List.mem_cons,List.not_mem_nil,or_false] at hp
 rcases hp with rfl | rfl | rfl
 ·exact ⟨by decide,by unfold Iv.Ok sa;decide +kernel,QDig.mono (j:=1) (by unfold QDig Dig sa;decide +kernel) (by omega),QDig.mono (j:=1) (by unfold QDig Dig sa;decide +kernel) (by omega)⟩
 ·exact ⟨by decide,by unfold Iv.Ok sb;decide +kernel,QDig.mono (j:=1) (by unfold QDig Dig sb;decide +kernel) (by omega),QDig.mono (j:=1) (by unfold QDig Dig sb;decide +kernel) (by omega)⟩
 ·exact ⟨by decide,by unfold Iv.Ok sc;decide +kernel,QDig.mono (j:=1) (by unfold QDig Dig sc;decide +kernel) (by omega),QDig.mono (j:=1) (by unfold QDig Dig sc;decide +kernel) (by omega)⟩
theorem s_ok:Hist.Ok ⟨sR,[sa,sb]⟩ where
 rate:=s_rate
 rdig:=s_rdig
 few:=by simp
 times:=fun p hp=>(s_iv p (by simp at hp ⊢;rcases hp with h | h <;> simp [h])).1
 ivs:=fun p hp=>(s_iv p (by simp at hp ⊢;rcases hp with h | h <;> simp [h])).2
 sorted:=by simp [sa,sb]
theorem s_ins:ins [sa,sb] sc=[sa,sc,sb]:=by simp [ins,upTo,sa,sb,sc]
theorem s_ok2:Hist.Ok ⟨sR,[sa,sc,sb]⟩ where
 rate:=s_rate
 rdig:=s_rdig
 few:=by simp
 times:=fun p hp=>(s_iv p (by simp at hp ⊢;rcases hp with h | h | h <;> simp [h])).1
 ivs:=fun p hp=>(s_iv p (by simp at hp ⊢;rcases hp with h | h | h <;> simp [h])).2
 sorted:=by simp [sa,sb,sc]
theorem s_free:Free ⟨sR,[sa,sb]⟩:=by
 refine (two_free s_rate (s_iv sa (by simp)).2.1 (s_iv sb (by simp)).2.1).2 ?_
 decide +kernel
theorem s_bad:¬ Free ⟨sR,[sa,sc,sb]⟩:=fun h=>h sa (by simp) sc (by simp) (by decide +kernel)
theorem s_cons:cons ⟨sR,[sa,sc,sb]⟩=[(0,1)]:=by decide +kernel
theorem s_knows {t:Nat} {o:Iv} (h:(o.lo=lowAt sR t sa∨o.lo=lowAt sR t sb)∧lowAt sR t sa≤o.lo∧lowAt sR t sb≤o.lo∧(o.hi=highAt sR t sa∨o.hi=highAt sR t sb)∧o.hi≤highAt sR t sa∧o.hi≤highAt sR t sb):Knows ⟨sR,[sa,sb]⟩ t o:=by
 obtain ⟨h1,h2,h3,h4,h5,h6⟩:=h
 refine ⟨⟨?_,?_⟩,⟨?_,?_⟩⟩
 ·rcases h1 with h | h
  ·exact ⟨sa,by simp,h⟩
  ·exact ⟨sb,by simp,h⟩
 ·intro p hp;simp at hp;rcases hp with rfl | rfl
  ·exact h2
  ·exact h3
 ·rcases h4 with h | h
  ·exact ⟨sa,by simp,h⟩
  ·exact ⟨sb,by simp,h⟩
 ·intro p hp;simp at hp;rcases hp with rfl | rfl
  ·exact h5
  ·exact h6
theorem s_knows1:Knows ⟨sR,[sa,sb]⟩ 10 so1:=s_knows (by decide +kernel)
theorem s_knows2:Knows ⟨sR,[sa,sb]⟩ 30 so2:=s_knows (by decide +kernel)
theorem s_knows20:Knows ⟨sR,[sa,sb]⟩ 20 sb.iv:=s_knows (by decide +kernel)
theorem s_upto19:upTo [sa,sb] 19=1:=by simp [upTo,sa,sb]
theorem s_known20:known ⟨sR,[sa,sb]⟩ ((20:Nat):Int)=⟨sR,[sa,sb]⟩:=by unfold known;simp [upTo,sa,sb]
theorem s_until1:UntilIs (known ⟨sR,[sa,sb]⟩ ((20:Nat):Int)) 20 (Rat.divInt 4 1) 30 true:=by
 rw [s_known20]
 exact .last (N:=10) (by simp) s_free s_knows20 (by omega) (by decide +kernel) (fun _=>by decide +kernel)
theorem s_until2:UntilIs (known ⟨sR,[sa,sb]⟩ ((20:Nat):Int)) 20 (Rat.divInt 1 1) 0 false:=by
 rw [s_known20]
 exact .wide (by simp) s_free s_knows20 (by decide +kernel)
end Go.Proofs.YtnokpldomlmamaaGreatDoor
