/- isValid: what it computes. -/
import Derived.Deep.DeepMust
import Derived.Shelf.Strings.SlTrimAscii
import Derived.Test.YtdiecekagiledaaGreatDoorVBuild
import Derived.Test.YtdiecekagiledaaGreatDoorVCmp
set_option maxRecDepth 100000
set_option maxHeartbeats 1000000
namespace Go.Proofs.YtdiecekagiledaaGreatDoor
open Go Go.RowKit Go.Lib Go.Shelf Go.Proofs.Tryz
theorem jaz(s:ByteArray)(w:World)(hs:s.size<=9223372036854775807) :
  Calls prog 173 #[.string s,.string { data:=#[48,49,50,51,52,53,54,55,56,57] }] w fun e w'=>e=.returned (.string ⟨(Lib.trimS s.data.toList [48,49,50,51,52,53,54,55,56,57]).toArray⟩)/\Aa w w' :=
 Any.strings_Trim_laid Tryz.lays160 kr9 s ⟨#[48,49,50,51,52,53,54,55,56,57]⟩ w hs dd (ascii_of_all dd)
theorem vL(s:ByteArray)(w:World) :
  Calls prog 172 #[.string s,.string { data:=#[45] }] w fun e w'=>e=.returned (.string ⟨(jA s.data.toList).toArray⟩)/\w'=w:=by
 refine(Tryz.strings_TrimPrefix s ⟨#[45]⟩ w).mono ?_;rintro e w'⟨rfl,rfl⟩;refine⟨?_,rfl⟩;have:Lib.trimPrefix s.data.toList [45]=jA s.data.toList:=by
  unfold Lib.trimPrefix jA
  cases s.data.toList with
  | nil=>rfl
  | cons c r =>
   by_cases h:c=45
   ·simp[Lib.hasPrefix,h]
   ·have h':¬ 45=c:=fun e=>h e.symm
    simp[Lib.hasPrefix,h,h']
 rw[show(⟨#[45]⟩:ByteArray).data.toList=[45] from rfl,this]
theorem dropWhile_nil{p:UInt8->Bool}:∀(l:List UInt8),l.dropWhile p=[]↔l.all p=true
 | []=>by simp
 | c :: r=>by
  by_cases h:p c=true
  ·rw[List.dropWhile_cons_of_pos h,dropWhile_nil r];simp[h]
  ·rw[List.dropWhile_cons_of_neg h];simp[h]
theorem yb7(l cs:List UInt8):Lib.trimS l cs=[]↔l.all (cs.contains ·)=true:=by
 unfold Lib.trimS Lib.trimLeftS Lib.trimRightS;rw[dropWhile_nil];by_cases h:l.all (cs.contains ·)=true
 ·have h2:l.reverse.dropWhile (cs.contains ·)=[]:=by rw[dropWhile_nil];simpa using h
  rw[h2];simp at h ⊢;exact h
 ·constructor
  ·intro h2;exfalso;have h3:l.reverse.dropWhile (cs.contains ·)≠[]:=by rw[Ne,dropWhile_nil];simpa using h
   obtain⟨c,r,e⟩:=List.exists_cons_of_ne_nil h3;have h4:=List.head?_dropWhile_not (cs.contains ·) l.reverse;rw[e]at h2 h4;simp at h2 h4;exact absurd (h2.2) (by simpa using h4)
  ·intro h2;exact absurd h2 h
theorem qde(c:UInt8):[48,49,50,51,52,53,54,55,56,57].contains c=jl c:=by
 have key:∀ n:Fin 256,[48,49,50,51,52,53,54,55,56,57].contains (UInt8.ofNat n)=jl (UInt8.ofNat n):=by decide +kernel
 have:=key ⟨c.toNat,c.toNat_lt⟩;simpa using this
theorem ycr(l:List UInt8):Lib.trimS l [48,49,50,51,52,53,54,55,56,57]=[]↔l.all jl=true:=by
 rw[yb7];simp only[qde]
theorem ycy(s:List UInt8):(jA s).length<=s.length:=by
 unfold jA;split<;>simp
theorem zaE(s:ByteArray)(w:World)(hs:s.size<=9223372036854775807) :
  Calls prog 136 #[.string s] w fun e w'=>e=.returned (.bool (ks s.data.toList))/\Aa w w':=by
 have hb:(jA s.data.toList).length<=9223372036854775807:=Bb (ycy _) (by simpa using hs);have hv:ks s.data.toList=(!((jA s.data.toList).isEmpty)&&decide ((jA s.data.toList).length<=200)&&(jA s.data.toList).all jl&&(s.data.toList==[48]||(jA s.data.toList).head? != some 48)):=rfl;generalize hl:jA s.data.toList=l at *;generalize ks s.data.toList=v at *;subst hv;have ht:=ycr l;generalize htl:Lib.trimS l [48,49,50,51,52,53,54,55,56,57]=t at *;rcases l with _|⟨c,r⟩
 ·go_enter func136,ntmps136;go_wp2_with (first
   | (go_at_call 172;refine(vL _ _).mono ?_;rintro e w1⟨rfl,rfl⟩;rw[hl]))
  go_ret;exact⟨rfl,Au _ _⟩
 ·have hc8:((c.toNat:Int) != 48)=(some c != some 48):=by
   have:((c.toNat:Int)=48)↔c=48:=by
    constructor
    ·intro h;exact UInt8.toNat_inj.1 (by simp;omega)
    ·intro h;rw[h];rfl
   by_cases h:c=48
   ·simp[h]
   ·have h2:=mt this.1 h;have h3:((c.toNat:Int) != 48)=true:=by simpa using h2
    rw[h3];simp[h]
  generalize hda:(c :: r).all jl=da at *;by_cases h200:r.length+1<=200
  ·have h200':¬ (200:Int)<(r.length:Int)+1:=oo
   cases da with
   | false =>
    obtain⟨a,b,rfl⟩:=List.exists_cons_of_ne_nil (show t≠[] from fun e=>by have:=ht.1 e;cases this);go_enter func136,ntmps136;go_wp2_with (first
     | (go_at_call 172;refine(vL _ _).mono ?_;rintro e w1⟨rfl,rfl⟩;rw[hl])
     | (go_at_call 173;go_must (refine(jaz _ _ (by simpa[ByteArray.size]using hb)).mono ?_;rintro e w2⟨rfl,hb2⟩;rw[htl])))
    go_ret;refine⟨?_,hb2⟩;simp
   | true =>
    obtain rfl:=ht.2 rfl;by_cases h0:s.data.toList=[48]
    ·have h0':s.toList=[48]:=(ByteArray.toList_eq s).trans h0;go_enter func136,ntmps136;go_wp2_with (first
      | (go_at_call 172;refine(vL _ _).mono ?_;rintro e w1⟨rfl,rfl⟩;rw[hl])
      | (go_at_call 173;go_must (refine(jaz _ _ (by simpa[ByteArray.size]using hb)).mono ?_;rintro e w2⟨rfl,hb2⟩;rw[htl])))
     go_ret;refine⟨?_,hb2⟩;simp[h0,h200]
     try omega
    ·have h0':¬ s.toList=[48]:=fun e=>h0 ((ByteArray.toList_eq s).symm.trans e)
     go_enter func136,ntmps136;go_wp2_with (first
      | (go_at_call 172;refine(vL _ _).mono ?_;rintro e w1⟨rfl,rfl⟩;rw[hl])
      | (go_at_call 173;go_must (refine(jaz _ _ (by simpa[ByteArray.size]using hb)).mono ?_;rintro e w2⟨rfl,hb2⟩;rw[htl])))
     ·go_ret;refine⟨?_,hb2⟩;have e1:∀ h,({ data:=(c :: r).toArray }:ByteArray)[0]'h=c:=fun _=>rfl
      simp[ByteArray.toList_eq,e1,hc8,h200]
      try omega
  ·have h200':(200:Int)<(r.length:Int)+1:=oo
   go_enter func136,ntmps136;go_wp2_with (first
    | (go_at_call 172;refine(vL _ _).mono ?_;rintro e w1⟨rfl,rfl⟩;rw[hl])
    | (go_at_call 173;go_must (refine(jaz _ _ (by simpa[ByteArray.size]using hb)).mono ?_;rintro e w2⟨rfl,hb2⟩;rw[htl])))
   go_ret;refine⟨?_,Au _ _⟩;simp[h200]
   try omega
end Go.Proofs.YtdiecekagiledaaGreatDoor
