/-
 The exported functions over numerals, as the laws call them.
-/
import Derived.Test.YtjpkfjmmmmfeeaaGreatDoorKStr6
namespace Go.Proofs.YtjpkfjmmmmfeeaaGreatDoor
open Go Go.RowKit Go.Lib Go.Shelf
theorem is_lit {a:ByteArray} {z:Int} (h:validB a.data.toList=true) (hz:zOf a.data.toList=z):Is a z:=by
 obtain ⟨y,_,e⟩:=validB_elim _ h
 rw [e,zOf_itoa] at hz
 subst hz
 exact e
theorem Is.str {a:ByteArray} {z:Int} (h:Is a z) (hf:Fits z):Str a:=by
 have:=S_size hf
 rw [h.eq]
 unfold Str
 omega
theorem Is.valid {a:ByteArray} {z:Int} (h:Is a z) (hf:Fits z):validB a.data.toList=true:=by
 unfold Is at h
 rw [h];exact validB_itoa z hf
def StrOk (z:Int) (w:World) (e:Ending) (w':World):Prop:=e = .returned (.tuple #[.string (S z),.int .i64 0])∧Below w.heap.size w w'
theorem tText_fit {z:Int} (h:Fits z):(⟨(tText z).toArray⟩:ByteArray)=S z:=by unfold tText S;rw [if_pos h]
theorem tErr_fit {z:Int} (h:Fits z):tErr z=0:=by unfold tErr;rw [if_pos h]
theorem tText_big {z:Int} (h:¬ Fits z):tText z=[]:=by unfold tText;rw [if_neg h]
theorem tErr_big {z:Int} (h:¬ Fits z):tErr z=30:=by unfold tErr;rw [if_neg h]
theorem addS {a b:ByteArray} {x y v:Int} (ha:Is a x) (hb:Is b y) (hv:Hid (x+y=v)) (hx:Fits x) (hy:Fits y) (hf:Fits v) (w:World) (he:Env w) :
  Calls Tryz.prog 55 #[.string a,.string b] w (StrOk v w):=by
 have:=add_ok a b x y w he.tab ha hb hx hy (ha.str hx) (hb.str hy)
 rw [hv.out,tText_fit hf,tErr_fit hf] at this
 exact this
theorem subS {a b:ByteArray} {x y v:Int} (ha:Is a x) (hb:Is b y) (hv:Hid (x - y=v)) (hx:Fits x) (hy:Fits y) (hf:Fits v) (w:World) (he:Env w) :
  Calls Tryz.prog 81 #[.string a,.string b] w (StrOk v w):=by
 have:=sub_ok a b x y w he.tab ha hb hx hy (ha.str hx) (hb.str hy)
 rw [hv.out,tText_fit hf,tErr_fit hf] at this
 exact this
theorem mulS {a b:ByteArray} {x y v:Int} (ha:Is a x) (hb:Is b y) (hv:Hid (x * y=v)) (hx:Fits x) (hy:Fits y) (hf:Fits v) (w:World) (he:Env w) :
  Calls Tryz.prog 112 #[.string a,.string b] w (StrOk v w):=by
 have:=mul_ok a b x y w he.tab ha hb hx hy (ha.str hx) (hb.str hy)
 rw [hv.out,tText_fit hf,tErr_fit hf] at this
 exact this
theorem divS {a b:ByteArray} {x y q r:Int} (ha:Is a x) (hb:Is b y) (hq:Hid (x / y=q)) (hr:Hid (x % y=r)) (hx:Fits x) (hy:Fits y) (hy0:Hid (y≠0)) (w:World) (he:Env w) :
  Calls Tryz.prog 68 #[.string a,.string b] w (DivOk q r w):=by
 have:=div_ok a b x y w he.tab ha hb hx hy hy0.out (ha.str hx) (hb.str hy)
 rw [hq.out,hr.out] at this
 exact this
theorem gcdS {a b:ByteArray} {x y v:Int} (ha:Is a x) (hb:Is b y) (hv:Hid (((x.natAbs.gcd y.natAbs:Nat):Int)=v)) (hx:Fits x) (hy:Fits y) (w:World) (he:Env w) :
  Calls Tryz.prog 108 #[.string a,.string b] w (StrOk v w):=by
 have:=gcd_ok a b x y w he.tab ha hb hx hy (ha.str hx) (hb.str hy)
 rw [hv.out] at this
 exact this
theorem rootS {a:ByteArray} {x r:Int} (ha:Is a x) (hr:Hid (0≤x∧0≤r∧IsRoot x.natAbs r.natAbs)) (hx:Fits x) (w:World) (he:Env w) :
  Calls Tryz.prog 185 #[.string a] w (StrOk r w):=by
 obtain ⟨h1,h2,h3⟩:=hr.out
 obtain ⟨X,rfl⟩:∃ X:Nat,x=X:=⟨x.natAbs,by omega⟩
 obtain ⟨R,rfl⟩:∃ R:Nat,r=R:=⟨r.natAbs,by omega⟩
 rw [Int.natAbs_natCast,Int.natAbs_natCast] at h3
 have key:Calls Tryz.prog 185 #[.string a] w (RootOk X w):=by
  rcases Nat.eq_zero_or_pos X with h0 | h0
  ·subst h0;exact root_zero a w ha (ha.str hx)
  ·exact root_pos a X w he.tab ha hx h0 (ha.str hx)
 refine key.mono ?_
 rintro e w' ⟨s,rfl,hs,hb⟩
 rw [hs.unique h3]
 exact ⟨rfl,hb⟩
def CmpOk (c:Int) (w:World) (e:Ending) (w':World):Prop:=e = .returned (.int .i64 c)∧Below w.heap.size w w'
theorem cmpS {a b:ByteArray} {x y c:Int} (ha:Is a x) (hb:Is b y) (hc:Hid (cmpZ x y=c)) (hx:Fits x) (hy:Fits y) (w:World) :
  Calls Tryz.prog 69 #[.string a,.string b] w (CmpOk c w):=by
 have:=compare_ok a b x y w ha hb hx hy (ha.str hx) (hb.str hy)
 rw [hc.out] at this
 exact this
def BoolOk (c:Bool) (w:World) (e:Ending) (w':World):Prop:=e = .returned (.bool c)∧Below w.heap.size w w'
theorem validS {a:ByteArray} {c:Bool} (hc:Hid (validB a.data.toList=c)) (hs:Str a) (w:World) :
  Calls Tryz.prog 107 #[.string a] w (BoolOk c w):=by
 have:=valid_any a w hs
 rw [hc.out] at this
 exact this
theorem cmpZ_lt {a b:Int} (h:a<b):cmpZ a b = -1:=by unfold cmpZ;rw [if_pos h]
theorem cmpZ_eq {a b:Int} (h:a=b):cmpZ a b=0:=by unfold cmpZ;rw [if_neg (by omega),if_neg (by omega)]
theorem cmpZ_gt {a b:Int} (h:b<a):cmpZ a b=1:=by unfold cmpZ;rw [if_neg (by omega),if_pos h]
theorem S_list (x:Int):(S x).toList=itoa x:=by rw [ByteArray.toList_eq];exact is_S x
theorem S_ne {x y:Int} (h:x≠y):((S x).toList == (S y).toList)=false:=beq_eq_false_iff_ne.2 fun e=>h (itoa_inj (by rwa [S_list,S_list] at e))
theorem S_ne0 {x:Int} (h:x≠0):((S x).toList == [48])=false:=beq_eq_false_iff_ne.2 fun e=>h (itoa_inj (by rw [S_list] at e;rw [e];exact is_zero))
theorem exists_root (x:Nat):∃ r,IsRoot x r:=by
 have key:∀ n,∃ r,IsRoot n r:=by
  intro n
  induction n with
  | zero=>exact ⟨0,by unfold IsRoot;omega⟩
  | succ n ih =>
   obtain ⟨r,h1,h2⟩:=ih
   by_cases h:(r+1) * (r+1)≤n+1
   ·refine ⟨r+1,h,?_⟩
    have:(r+1) * (r+1)<(r+1+1) * (r+1+1):=Nat.mul_lt_mul'' (by omega) (by omega)
    omega
   ·exact ⟨r,by omega,by omega⟩
 exact key x
end Go.Proofs.YtjpkfjmmmmfeeaaGreatDoor
namespace Go.Proofs.YtjpkfjmmmmfeeaaGreatDoor
open Go Go.RowKit Go.Lib Go.Shelf
theorem fits_lit {z:Int} (h:z.natAbs<100000):Fits z:=Nat.lt_trans h (by decide +kernel)
theorem S_eq0 {x:Int} (h:x=0):((S x).toList == [48])=true:=by
 subst h
 rw [S_list,← is_zero]
 rfl
def FromOk (z:Int) (w:World) (e:Ending) (w':World):Prop:=e = .returned (.string (S z))∧Below w.heap.size w w'
end Go.Proofs.YtjpkfjmmmmfeeaaGreatDoor
