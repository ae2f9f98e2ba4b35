/-
 Affine: two rows of terms of their own that differ lie apart.
-/
import Derived.Test.YtjpkfjmmmmfeeaaGreatDoorKAFits
import Derived.Test.YtjpkfjmmmmfeeaaGreatDoorKALin
import Derived.Test.YtjpkfjmmmmfeeaaGreatDoorKExtra0
namespace Go.Proofs.YtjpkfjmmmmfeeaaGreatDoor
open Go Go.RowKit Go.Lib Go.Shelf
theorem own_apart {w:World} {base base' n m:Nat} {e:TypeId} {size:Nat} {v u:Value} {xs ys:List Value} (h:w.ownsRow base e size v n xs) (h':w.ownsRow base' e size u m ys) {j:Nat} {a b:Value} (hx:xs[j]? = some a) (hy:ys[j]? = some b) (hab:a≠b):v.ownBlock=none∨v.ownBlock≠u.ownBlock:=by
 cases hv:v.ownBlock with
 | none=>exact .inl rfl
 | some g =>
  refine .inr fun e => ?_
  have c1:=h.cells hv j a hx
  have c2:=h'.cells e.symm j b hy
  rw [c1] at c2
  exact hab (Option.some.inj c2)
/-- Two lists of terms whose first terms' coefficients differ; or the first one (which grows) lies nowhere. -/
def TApart (H L:List Trm) (ph:Option Addr):Prop:=ph=none∨∃ a b,(uCells (raws H))[1]? = some a∧(uCells (raws L))[1]? = some b∧a≠b
theorem TApart.kept {w w':World} {n0 ch cl:Nat} {ph pl:Option Addr} {H L:List Trm} (ho:OT w n0 ph ch H) (h:OT w n0 pl cl L) (ha:TApart H L ph) (hg:w.grownBy w' (Value.slice ph H.length ch).ownBlock):OT w' n0 pl cl L:=by
 refine World.ownsRow.kept h hg ?_
 rcases ha with rfl | ⟨a,b,h1,h2,h3⟩
 ·cases pl with
  | none=>exact .inl rfl
  | some a=>exact .inr (fun e=>by cases e)
 ·exact own_apart h ho h2 h1 (fun e=>h3 e.symm)
theorem snoc_first {l:List Trm} {t:Trm} {a:Value} (h:(uCells (raws l))[1]? = some a):(uCells (raws (l ++ [t])))[1]? = some a:=by
 rw [raws_app,uCells_app,List.getElem?_append_left]
 ·exact h
 ·exact (List.getElem?_eq_some_iff.1 h).1
theorem TApart.more {H L:List Trm} {t:Trm} {ph:Option Addr} (h:TApart H L ph):TApart H (L ++ [t]) ph:=by
 rcases h with h | ⟨a,b,h1,h2,h3⟩
 ·exact .inl h
 ·exact .inr ⟨a,b,h1,snoc_first h2,h3⟩
theorem tat_lt {T:TypeId} {W:World} {g:Nat} {l:List RT} (h:UAt T W (some ⟨g,0,none⟩) l) (h0:0<l.length):g<W.heap.size:=by
 obtain ⟨g',cur,e,r,_⟩:=h.open h0
 injection e with e;injection e with e
 subst e;exact r.1
theorem uat_grown {T U:TypeId} {W W':World} {p:Option Addr} {l:List RT} {n0 k n:Nat} {v:Value} {xs:List Value} (h:UAt T W p l) (hlt:∀ g,p=some ⟨g,0,none⟩→0<l.length→g<n0) (ho:W.ownsRow n0 U k v n xs) (hg:W.grownBy W' v.ownBlock):UAt T W' p l:=by
 rcases h with h | ⟨g,cur,rfl,r,hx⟩
 ·exact .inl h
 ·rcases Nat.eq_zero_or_pos l.length with h0 | h0
  ·exact .inl ⟨List.length_eq_zero_iff.1 h0,.inr ⟨g,rfl⟩⟩
  ·have hl:=hlt g rfl h0
   exact .inr ⟨g,cur,rfl,⟨Nat.lt_of_lt_of_le r.1 hg.size,(hg.block g r.1 fun e=>by have:=ho.lt g e.symm;omega).trans r.2⟩,hx⟩
theorem ends_first {l:List Trm} (h:0<l.length) (up:Int):(uCells (raws (ends l up)))[1]? = some (.string (S (Rat.divInt (up * sgn (trD l 0).c) 1).num)):=by
 cases l with
 | nil=>simp at h
 | cons x l=>rfl
theorem ends_apart {l:List Trm} {ph pl:Option Addr} (h:l.length=0→ph=none∧pl=none):TApart (ends l 1) (ends l (-1)) ph∧TApart (ends l (-1)) (ends l 1) pl:=by
 rcases Nat.eq_zero_or_pos l.length with h0 | h0
 ·exact ⟨.inl (h h0).1,.inl (h h0).2⟩
 ·have hne:(Value.string (S (Rat.divInt (1 * sgn (trD l 0).c) 1).num)) ≠ .string (S (Rat.divInt (-1 * sgn (trD l 0).c) 1).num):=by
   intro e
   injection e with e
   have h1:(Rat.divInt (1 * sgn (trD l 0).c) 1).num≠(Rat.divInt (-1 * sgn (trD l 0).c) 1).num:=by unfold sgn;split <;> decide +kernel
   have h2:=S_ne h1
   rw [e] at h2
   simp at h2
  exact ⟨.inr ⟨_,_,ends_first h0 1,ends_first h0 (-1),hne⟩,.inr ⟨_,_,ends_first h0 (-1),ends_first h0 1,hne.symm⟩⟩
end Go.Proofs.YtjpkfjmmmmfeeaaGreatDoor
