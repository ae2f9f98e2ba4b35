/- Drift, plain: up to when what is known stays within a width; the order in. -/
import Derived.Test.YtdiecekagiledaaGreatDoorVDPlain2
namespace Go.Proofs.YtdiecekagiledaaGreatDoor
open Go Go.Lib
inductive UntilIs (k:Hist) (f:Nat) (w:Rat):Nat->Bool->Prop where
 | none (h:k.pts=[]\/¬ Free k):UntilIs k f w 0 false
 | wide {o:Iv} (h1:k.pts≠[]) (h2:Free k) (h3:Knows k f o) (h4:w<o.hi-o.lo):UntilIs k f w 0 false
 | last {o:Iv} {N:Nat} (h1:k.pts≠[]) (h2:Free k) (h3:Knows k f o) (h4:f+N<=1000000) (h5:o.hi-o.lo+far k.rate (2*N)<=w) (h6:f+N<1000000->w<o.hi-o.lo+far k.rate (2*(N+1))):UntilIs k f w (f+N) true
theorem UntilIs.unique{k:Hist}{f:Nat}{w:Rat}(hr:0<=k.rate){n m:Nat}{a b:Bool}(h:UntilIs k f w n a)(g:UntilIs k f w m b):n=m/\a=b:=by
 cases h with
 | none h =>
  cases g with
  | none=>exact⟨rfl,rfl⟩
  | wide g1 g2=>exact⟨rfl,rfl⟩
  | last g1 g2=>rcases h with h|h;exact absurd h g1;exact absurd g2 h
 | wide h1 h2 h3 h4 =>
  cases g with
  | none=>exact⟨rfl,rfl⟩
  | wide=>exact⟨rfl,rfl⟩
  | last g1 g2 g3 _ g5 =>
   obtain rfl:=h3.unique g3;exfalso;have:=jar hr (2 * ‹Nat›);grind
 | @last o N h1 h2 h3 h4 h5 h6 =>
  cases g with
  | none g=>rcases g with g|g;exact absurd g h1;exact absurd h2 g
  | wide g1 g2 g3 g4 =>
   obtain rfl:=h3.unique g3;exfalso;have:=jar hr (2*N);grind
  | @last o' M g1 g2 g3 g4 g5 g6 =>
   obtain rfl:=h3.unique g3;rcases Cf N M with hl|rfl|hl
   ·exfalso;have a1:=h6 oo;have a2:=vaS hr (show 2*(N+1)<=2*M by omega);grind
   ·exact⟨rfl,rfl⟩
   ·exfalso;have a1:=g6 oo;have a2:=vaS hr (show 2*(M+1)<=2*N by omega);grind
end Go.Proofs.YtdiecekagiledaaGreatDoor
