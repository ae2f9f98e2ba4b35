/-
 Drift, plain: up to when what is known stays within a width; the order in which points are added. No program in sight.
-/
import Derived.Test.YtnokpldomlmamaaGreatDoorODPlain2
namespace Go.Proofs.YtnokpldomlmamaaGreatDoor
open Go Go.Lib
/-- Up to when what is known by points up to a time f stays within a width. -/
inductive UntilIs (k:Hist) (f:Nat) (w:Rat):Nat→Bool→Prop where
 | none (h:k.pts=[]∨¬ Free k):UntilIs k f w 0 false
 | wide {o:Iv} (h1:k.pts≠[]) (h2:Free k) (h3:Knows k f o) (h4:w<o.hi - o.lo):UntilIs k f w 0 false
 | last {o:Iv} {N:Nat} (h1:k.pts≠[]) (h2:Free k) (h3:Knows k f o) (h4:f+N≤1000000) (h5:o.hi - o.lo+far k.rate (2 * N)≤w) (h6:f+N<1000000→w<o.hi - o.lo+far k.rate (2 * (N+1))):UntilIs k f w (f+N) true
theorem UntilIs.unique {k:Hist} {f:Nat} {w:Rat} (hr:0≤k.rate) {n m:Nat} {a b:Bool} (h:UntilIs k f w n a) (g:UntilIs k f w m b):n=m∧a=b:=by
 cases h with
 | none h =>
  cases g with
  | none=>exact ⟨rfl,rfl⟩
  | wide g1 g2=>exact ⟨rfl,rfl⟩
  | last g1 g2=>rcases h with h | h;exact absurd h g1;exact absurd g2 h
 | wide h1 h2 h3 h4 =>
  cases g with
  | none=>exact ⟨rfl,rfl⟩
  | wide=>exact ⟨rfl,rfl⟩
  | last g1 g2 g3 _ g5 =>
   obtain rfl:=h3.unique g3
   exfalso
   have:=far_nonneg hr (2 * ‹Nat›)
   grind
 | @last o N h1 h2 h3 h4 h5 h6 =>
  cases g with
  | none g=>rcases g with g | g;exact absurd g h1;exact absurd h2 g
  | wide g1 g2 g3 g4 =>
   obtain rfl:=h3.unique g3
   exfalso
   have:=far_nonneg hr (2 * N)
   grind
  | @last o' M g1 g2 g3 g4 g5 g6 =>
   obtain rfl:=h3.unique g3
   rcases Nat.lt_trichotomy N M with hl | rfl | hl
   ·exfalso
    have a1:=h6 (by omega)
    have a2:=far_mono hr (show 2 * (N+1)≤2 * M by omega)
    grind
   ·exact ⟨rfl,rfl⟩
   ·exfalso
    have a1:=g6 (by omega)
    have a2:=far_mono hr (show 2 * (M+1)≤2 * N by omega)
    grind
/-- The width n units of time behind f. -/
theorem width_after {k:Hist} {f n:Nat} {o o':Iv} (hp:∀ p,p ∈ k.pts→p.t≤f) (h:Knows k f o) (h':Knows k (f+n) o'):o'.hi - o'.lo=o.hi - o.lo+far k.rate (2 * n):=by
 obtain rfl:=h'.unique (Knows.after hp h)
 rw [show 2 * n=n+n by omega,far_add]
 show (o.hi+far k.rate n) - (o.lo - far k.rate n)=_
 grind
/-- What a search for the first time at which it is too wide has found. -/
theorem UntilIs.of_search {k:Hist} {f N:Nat} {w:Rat} {o:Iv} (h1:k.pts≠[]) (h2:Free k) (h3:Knows k f o) (h0:o.hi - o.lo≤w) (hN:N≤1000000 - f) (hf:f≤1000000)
  (hlo:∀ j,j<N→¬ w<o.hi - o.lo+far k.rate (2 * (j+1))) (hhi:∀ j,N≤j→j<1000000 - f→w<o.hi - o.lo+far k.rate (2 * (j+1))):UntilIs k f w (f+N) true:=by
 refine .last h1 h2 h3 (by omega) ?_ (fun h=>hhi N (Nat.le_refl _) (by omega))
 cases N with
 | zero=>rw [Nat.mul_zero,far_zero];grind
 | succ M=>exact Rat.not_lt.1 (hlo M (by omega))
theorem exists_lo (r:Rat) (t:Nat):∀ l:List Pt,l≠[]→∃ x,IsLo r t l x:=by
 intro l hl
 obtain ⟨ini,p,rfl⟩:∃ ini p,l=ini ++ [p]:=⟨l.dropLast,l.getLast hl,(List.dropLast_concat_getLast hl).symm⟩
 clear hl
 generalize hn:ini.length=n
 induction n generalizing ini p with
 | zero=>obtain rfl:=List.length_eq_zero_iff.1 hn;exact ⟨_,IsLo.one r t p⟩
 | succ n ih =>
  obtain ⟨i2,q,rfl⟩:∃ i2 q,ini=i2 ++ [q]:=⟨ini.dropLast,ini.getLast (by intro e;rw [e] at hn;simp at hn),(List.dropLast_concat_getLast _).symm⟩
  obtain ⟨x,hx⟩:=ih i2 q (by simpa using hn)
  by_cases h:x<lowAt r t p
  ·exact ⟨_,hx.snoc_gt h⟩
  ·exact ⟨_,hx.snoc_le (Rat.not_lt.1 h)⟩
theorem exists_hi (r:Rat) (t:Nat):∀ l:List Pt,l≠[]→∃ x,IsHi r t l x:=by
 intro l hl
 obtain ⟨ini,p,rfl⟩:∃ ini p,l=ini ++ [p]:=⟨l.dropLast,l.getLast hl,(List.dropLast_concat_getLast hl).symm⟩
 clear hl
 generalize hn:ini.length=n
 induction n generalizing ini p with
 | zero=>obtain rfl:=List.length_eq_zero_iff.1 hn;exact ⟨_,IsHi.one r t p⟩
 | succ n ih =>
  obtain ⟨i2,q,rfl⟩:∃ i2 q,ini=i2 ++ [q]:=⟨ini.dropLast,ini.getLast (by intro e;rw [e] at hn;simp at hn),(List.dropLast_concat_getLast _).symm⟩
  obtain ⟨x,hx⟩:=ih i2 q (by simpa using hn)
  by_cases h:highAt r t p<x
  ·exact ⟨_,hx.snoc_lt h⟩
  ·exact ⟨_,hx.snoc_ge (Rat.not_lt.1 h)⟩
theorem exists_knows (h:Hist) (t:Nat) (hl:h.pts≠[]):∃ o,Knows h t o:=by
 obtain ⟨x,hx⟩:=exists_lo h.rate t h.pts hl
 obtain ⟨y,hy⟩:=exists_hi h.rate t h.pts hl
 exact ⟨⟨x,y⟩,hx,hy⟩
end Go.Proofs.YtnokpldomlmamaaGreatDoor
