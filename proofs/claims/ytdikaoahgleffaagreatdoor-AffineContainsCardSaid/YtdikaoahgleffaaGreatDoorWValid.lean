/-
 isValid: what it computes.
-/
import Derived.Deep.DeepMust
import Derived.Shelf.Strings.SlTrimAscii
import Derived.Test.YtdikaoahgleffaaGreatDoorWBuild
import Derived.Test.YtdikaoahgleffaaGreatDoorWCmp
set_option maxRecDepth 100000
set_option maxHeartbeats 1000000
namespace Go.Proofs.YtdikaoahgleffaaGreatDoor
open Go Go.RowKit Go.Lib Go.Shelf
theorem trim_ten (s:ByteArray) (w:World) (hs:s.size≤9223372036854775807) :
  Calls Tryz.prog 186 #[.string s,.string { data:=#[48,49,50,51,52,53,54,55,56,57] }] w fun e w'=>e = .returned (.string ⟨(Lib.trimS s.data.toList [48,49,50,51,52,53,54,55,56,57]).toArray⟩)∧Below w.heap.size w w' :=
 Any.strings_Trim_laid Tryz.lays160 (by kernel_rfl) s ⟨#[48,49,50,51,52,53,54,55,56,57]⟩ w hs (by decide) (ascii_of_all (by decide))
theorem trim_minus (s:ByteArray) (w:World) :
  Calls Tryz.prog 185 #[.string s,.string { data:=#[45] }] w fun e w'=>e = .returned (.string ⟨(body s.data.toList).toArray⟩)∧w'=w:=by
 refine (Tryz.strings_TrimPrefix s ⟨#[45]⟩ w).mono ?_;rintro e w' ⟨rfl,rfl⟩;refine ⟨?_,rfl⟩;have:Lib.trimPrefix s.data.toList [45]=body s.data.toList:=by
  unfold Lib.trimPrefix body
  cases s.data.toList with
  | nil=>rfl
  | cons c r =>
   by_cases h:c=45
   ·simp [Lib.hasPrefix,h]
   ·have h':¬ 45=c:=fun e=>h e.symm
    simp [Lib.hasPrefix,h,h']
 rw [show (⟨#[45]⟩:ByteArray).data.toList=[45] from rfl,this]
theorem dropWhile_nil {p:UInt8→Bool}:∀ (l:List UInt8),l.dropWhile p=[] ↔ l.all p=true
 | []=>by simp
 | c :: r=>by
  by_cases h:p c=true
  ·rw [List.dropWhile_cons_of_pos h,dropWhile_nil r];simp [h]
  ·rw [List.dropWhile_cons_of_neg h];simp [h]
theorem trimS_nil (l cs:List UInt8):Lib.trimS l cs=[] ↔ l.all (cs.contains ·)=true:=by
 unfold Lib.trimS Lib.trimLeftS Lib.trimRightS;rw [dropWhile_nil];by_cases h:l.all (cs.contains ·)=true
 ·have h2:l.reverse.dropWhile (cs.contains ·)=[]:=by rw [dropWhile_nil];simpa using h
  rw [h2];simp at h ⊢;exact h
 ·constructor
  ·intro h2;exfalso;have h3:l.reverse.dropWhile (cs.contains ·)≠[]:=by rw [Ne,dropWhile_nil];simpa using h
   obtain ⟨c,r,e⟩:=List.exists_cons_of_ne_nil h3;have h4:=List.head?_dropWhile_not (cs.contains ·) l.reverse;rw [e] at h2 h4;simp at h2 h4;exact absurd (h2.2) (by simpa using h4)
  ·intro h2;exact absurd h2 h
theorem tens (c:UInt8):[48,49,50,51,52,53,54,55,56,57].contains c=isDig c:=by
 have key:∀ n:Fin 256,[48,49,50,51,52,53,54,55,56,57].contains (UInt8.ofNat n)=isDig (UInt8.ofNat n):=by decide +kernel
 have:=key ⟨c.toNat,c.toNat_lt⟩;simpa using this
theorem trim_dig (l:List UInt8):Lib.trimS l [48,49,50,51,52,53,54,55,56,57]=[] ↔ l.all isDig=true:=by
 rw [trimS_nil];simp only [tens]
theorem body_le (s:List UInt8):(body s).length≤s.length:=by
 unfold body;split <;> simp
theorem isValid_any (s:ByteArray) (w:World) (hs:s.size≤9223372036854775807) :
  Calls Tryz.prog 154 #[.string s] w fun e w'=>e = .returned (.bool (validB s.data.toList))∧Below w.heap.size w w':=by
 have hb:(body s.data.toList).length≤9223372036854775807:=Nat.le_trans (body_le _) (by simpa using hs);have hv:validB s.data.toList=(!((body s.data.toList).isEmpty) && decide ((body s.data.toList).length≤200) && (body s.data.toList).all isDig && (s.data.toList == [48] || (body s.data.toList).head? != some 48)):=rfl;generalize hl:body s.data.toList=l at *;generalize validB s.data.toList=v at *;subst hv;have ht:=trim_dig l;generalize htl:Lib.trimS l [48,49,50,51,52,53,54,55,56,57]=t at *;rcases l with _ | ⟨c,r⟩
 ·go_enter Tryz.func154, Tryz.ntmps154;go_wp2_with (first
   | (go_at_call 185; refine (trim_minus _ _).mono ?_;rintro e w1 ⟨rfl,rfl⟩;rw [hl]))
  go_ret;exact ⟨rfl,Below.refl _ _⟩
 ·have hc8:((c.toNat:Int) != 48)=(some c != some 48):=by
   have:((c.toNat:Int)=48) ↔ c=48:=by
    constructor
    ·intro h;exact UInt8.toNat_inj.1 (by simp;omega)
    ·intro h;rw [h];rfl
   by_cases h:c=48
   ·simp [h]
   ·have h2:=mt this.1 h;have h3:((c.toNat:Int) != 48)=true:=by simpa using h2
    rw [h3];simp [h]
  generalize hda:(c :: r).all isDig=da at *;by_cases h200:r.length+1≤200
  ·have h200':¬ (200:Int)<(r.length:Int)+1:=by omega
   cases da with
   | false =>
    obtain ⟨a,b,rfl⟩:=List.exists_cons_of_ne_nil (show t≠[] from fun e=>by have:=ht.1 e;cases this);go_enter Tryz.func154, Tryz.ntmps154;go_wp2_with (first
     | (go_at_call 185; refine (trim_minus _ _).mono ?_;rintro e w1 ⟨rfl,rfl⟩;rw [hl])
     | (go_at_call 186; go_must (refine (trim_ten _ _ (by simpa [ByteArray.size] using hb)).mono ?_;rintro e w2 ⟨rfl,hb2⟩;rw [htl])))
    go_ret;refine ⟨?_,hb2⟩;simp
   | true =>
    obtain rfl:=ht.2 rfl;by_cases h0:s.data.toList=[48]
    ·have h0':s.toList=[48]:=(ByteArray.toList_eq s).trans h0;go_enter Tryz.func154, Tryz.ntmps154;go_wp2_with (first
      | (go_at_call 185; refine (trim_minus _ _).mono ?_;rintro e w1 ⟨rfl,rfl⟩;rw [hl])
      | (go_at_call 186; go_must (refine (trim_ten _ _ (by simpa [ByteArray.size] using hb)).mono ?_;rintro e w2 ⟨rfl,hb2⟩;rw [htl])))
     go_ret;refine ⟨?_,hb2⟩;simp [h0,h200]
     try omega
    ·have h0':¬ s.toList=[48]:=fun e=>h0 ((ByteArray.toList_eq s).symm.trans e)
     go_enter Tryz.func154, Tryz.ntmps154;go_wp2_with (first
      | (go_at_call 185; refine (trim_minus _ _).mono ?_;rintro e w1 ⟨rfl,rfl⟩;rw [hl])
      | (go_at_call 186; go_must (refine (trim_ten _ _ (by simpa [ByteArray.size] using hb)).mono ?_;rintro e w2 ⟨rfl,hb2⟩;rw [htl])))
     ·go_ret;refine ⟨?_,hb2⟩;have e1:∀ h,({ data:=(c :: r).toArray }:ByteArray)[0]'h=c:=fun _=>rfl
      simp [ByteArray.toList_eq,e1,hc8,h200]
      try omega
  ·have h200':(200:Int)<(r.length:Int)+1:=by omega
   go_enter Tryz.func154, Tryz.ntmps154;go_wp2_with (first
    | (go_at_call 185; refine (trim_minus _ _).mono ?_;rintro e w1 ⟨rfl,rfl⟩;rw [hl])
    | (go_at_call 186; go_must (refine (trim_ten _ _ (by simpa [ByteArray.size] using hb)).mono ?_;rintro e w2 ⟨rfl,hb2⟩;rw [htl])))
   go_ret;refine ⟨?_,Below.refl _ _⟩;simp [h200]
   try omega
end Go.Proofs.YtdikaoahgleffaaGreatDoor
