/-
 Plain mathematics: decimal numerals, groups of four digits, long division, Newton's steps. No program in sight.
-/
import Derived.Lib.AtoiAll
import Derived.Lib.ItoaLen
import Derived.Lib.ItoaNum
namespace Go.Proofs.YtdikaoahgleffaaGreatDoor
open Go.Lib
def evalD (l:List UInt8):Nat:=l.foldl (fun a c=>a * 10+(c.toNat - 48)) 0
def isDig (c:UInt8):Bool:=decide (48≤c.toNat) && decide (c.toNat≤57)
theorem evalD_snoc (l:List UInt8) (c:UInt8):evalD (l ++ [c])=evalD l * 10+(c.toNat - 48):=by simp [evalD]
theorem foldl_dig (l:List UInt8):∀ a,l.foldl (fun a c=>a * 10+(c.toNat - 48)) a=a * 10 ^ l.length+evalD l:=by
 induction l with
 | nil=>intro a;simp [evalD]
 | cons c l ih =>
  intro a;have h1:=ih (a * 10+(c.toNat - 48));have h2:=ih (0 * 10+(c.toNat - 48));unfold evalD;simp only [List.foldl_cons,List.length_cons];rw [h1,h2,Nat.pow_succ];simp only [Nat.zero_mul,Nat.zero_add];rw [Nat.add_mul,Nat.mul_assoc a 10,Nat.mul_comm 10 (10 ^ l.length)];omega
theorem evalD_append (l m:List UInt8):evalD (l ++ m)=evalD l * 10 ^ m.length+evalD m:=by
 unfold evalD;rw [List.foldl_append,foldl_dig m];rfl
theorem evalD_cons (c:UInt8) (m:List UInt8):evalD (c :: m)=(c.toNat - 48) * 10 ^ m.length+evalD m:=by
 have:=evalD_append [c] m;simpa [evalD] using this
theorem evalD_lt (l:List UInt8) (h:∀ c ∈ l,isDig c=true):evalD l<10 ^ l.length:=by
 induction l with
 | nil=>simp [evalD]
 | cons c l ih =>
  have h1:=ih (fun x hx=>h x (List.mem_cons_of_mem _ hx));have h2:=h c (List.mem_cons_self ..);simp [isDig] at h2;rw [evalD_cons,List.length_cons,Nat.pow_succ];have h3:(c.toNat - 48)≤9:=by omega
  have h4:=Nat.mul_le_mul_right (10 ^ l.length) h3;omega
theorem toNat_dig (u:Nat) (h:u<10):(UInt8.ofNat (48+u)).toNat=48+u:=by
 rw [UInt8.toNat_ofNat'];omega
theorem isDig_ofNat (u:Nat) (h:u<10):isDig (UInt8.ofNat (48+u))=true:=by
 unfold isDig;rw [toNat_dig u h];simp;omega
theorem ofNat_dig (c:UInt8) (h:isDig c=true):UInt8.ofNat (48+(c.toNat - 48))=c:=by
 simp [isDig] at h;rw [show 48+(c.toNat - 48)=c.toNat by omega];simp
theorem decDigits_lo {u:Nat} (h:u<10):decDigits u=[UInt8.ofNat (48+u)]:=by rw [decDigits,dif_pos h]
theorem decDigits_hi {u:Nat} (h:¬ u<10):decDigits u=decDigits (u / 10) ++ [UInt8.ofNat (48+u % 10)]:=by rw [decDigits,dif_neg h]
theorem evalD_decDigits (u:Nat):evalD (decDigits u)=u:=by
 induction u using Nat.strongRecOn with
 | _ u ih =>
  by_cases h:u<10
  ·rw [decDigits_lo h];simp only [evalD,List.foldl_cons,List.foldl_nil,toNat_dig u h];omega
  ·rw [decDigits_hi h,evalD_snoc,ih (u / 10) (by omega),toNat_dig _ (Nat.mod_lt _ (by decide))];omega
theorem decDigits_dig (u:Nat):∀ c ∈ decDigits u,isDig c=true:=by
 induction u using Nat.strongRecOn with
 | _ u ih =>
  by_cases h:u<10
  ·rw [decDigits_lo h];intro c hc;obtain rfl:=List.mem_singleton.1 hc;exact isDig_ofNat u h
  ·rw [decDigits_hi h];intro c hc;rcases List.mem_append.1 hc with hc | hc
   ·exact ih (u / 10) (by omega) c hc
   ·obtain rfl:=List.mem_singleton.1 hc;exact isDig_ofNat _ (Nat.mod_lt _ (by decide))
theorem decDigits_ne_nil (u:Nat):decDigits u≠[]:=by
 intro h;have h1:=decDigits_length u;have h2:=nDigits_pos u;rw [h] at h1;simp at h1;omega
def goodD (l:List UInt8):Prop:=l≠[]∧(∀ c ∈ l,isDig c=true)∧(l=[48]∨l.head? ≠ some 48)
theorem decDigits_head (u:Nat) (h:0<u):(decDigits u).head? ≠ some 48:=by
 induction u using Nat.strongRecOn with
 | _ u ih =>
  by_cases h9:u<10
  ·rw [decDigits_lo h9];simp only [List.head?_cons];intro e;have e':(UInt8.ofNat (48+u)).toNat=48:=by
    injection e with e;rw [e];rfl
   rw [toNat_dig u h9] at e';omega
  ·rw [decDigits_hi h9];have h1:=ih (u / 10) (by omega) (by omega);rw [List.head?_append]
   cases hd:(decDigits (u / 10)).head? with
   | none=>exact absurd (List.head?_eq_none_iff.1 hd) (decDigits_ne_nil _)
   | some c=>rw [hd] at h1;simpa using h1
theorem decDigits_zero:decDigits 0=[48]:=by rw [decDigits_lo (by omega)];rfl
theorem decDigits_good (u:Nat):goodD (decDigits u):=by
 refine ⟨decDigits_ne_nil u,decDigits_dig u,?_⟩;rcases Nat.eq_zero_or_pos u with rfl | h
 ·exact .inl decDigits_zero
 ·exact .inr (decDigits_head u h)
theorem evalD_pos_of_head (l:List UInt8) (hn:l≠[]) (hd:∀ c ∈ l,isDig c=true) (hh:l.head? ≠ some 48):10 ^ (l.length - 1)≤evalD l:=by
 cases l with
 | nil=>exact absurd rfl hn
 | cons c l =>
  have h2:=hd c (List.mem_cons_self ..);simp [isDig] at h2;have h3:c.toNat≠48:=by
   intro e;apply hh;simp;exact UInt8.toNat_inj.1 (by rw [e];rfl)
  rw [evalD_cons];simp only [List.length_cons,Nat.add_sub_cancel];have h4:1≤c.toNat - 48:=by omega
  have h5:=Nat.mul_le_mul_right (10 ^ l.length) h4;omega
theorem good_snoc {l:List UInt8} {c:UInt8} (hl:l≠[]) (h:goodD (l ++ [c])):goodD l∧0<evalD l:=by
 obtain ⟨_,hd,hh⟩:=h;have hd':∀ c ∈ l,isDig c=true:=fun x hx=>hd x (List.mem_append_left _ hx)
 have hh':l.head? ≠ some 48:=by
  rcases hh with e | e
  ·exfalso;have h1:=congrArg List.length e;have h0:=List.length_pos_iff.2 hl;rw [List.length_append] at h1;simp only [List.length_cons,List.length_nil] at h1;omega
  ·rw [List.head?_append] at e
   cases hx:l.head? with
   | none=>exact absurd (List.head?_eq_none_iff.1 hx) hl
   | some x=>rw [hx] at e;simpa using e
 refine ⟨⟨hl,hd',.inr hh'⟩,?_⟩;have:=evalD_pos_of_head l hl hd' hh';have hp:0<10 ^ (l.length - 1):=Nat.pow_pos (by decide);omega
theorem eq_decDigits:∀ (n:Nat) (l:List UInt8),l.length=n→goodD l→l=decDigits (evalD l):=by
 intro n
 induction n with
 | zero=>intro l h g;exact absurd (List.length_eq_zero_iff.1 h) g.1
 | succ n ih =>
  intro l h g;obtain ⟨m,c,rfl⟩:∃ m c,l=m ++ [c]:=by
   refine ⟨l.dropLast,l.getLast g.1,(List.dropLast_concat_getLast g.1).symm⟩
  have hc:isDig c=true:=g.2.1 c (by simp);have hc':=hc;simp [isDig] at hc';by_cases hm:m=[]
  ·subst hm;simp only [List.nil_append];have e:evalD [c]=c.toNat - 48:=by simp [evalD]
   rw [e,decDigits_lo (by omega),ofNat_dig c hc]
  ·obtain ⟨g1,g2⟩:=good_snoc hm g;have h1:=ih m (by simp at h;omega) g1;rw [evalD_snoc,decDigits_hi (by omega)];rw [show (evalD m * 10+(c.toNat - 48)) / 10=evalD m by omega,show (evalD m * 10+(c.toNat - 48)) % 10=c.toNat - 48 by omega,← h1,ofNat_dig c hc]
theorem good_eq {l:List UInt8} (g:goodD l):l=decDigits (evalD l):=eq_decDigits _ l rfl g
theorem decDigits_inj {a b:Nat} (h:decDigits a=decDigits b):a=b:=by
 have:=congrArg evalD h
 rwa [evalD_decDigits,evalD_decDigits] at this
theorem decDigits_lt (u k:Nat):(decDigits u).length≤k∧0<k ↔ u<10 ^ k∧0<k:=by
 rw [decDigits_length];constructor
 ·rintro ⟨h,hk⟩;exact ⟨Nat.lt_of_lt_of_le (lt_pow_nDigits u) (Nat.pow_le_pow_right (by decide) h),hk⟩
 ·rintro ⟨h,hk⟩;refine ⟨?_,hk⟩;rcases Nat.lt_or_ge k (nDigits u) with hlt | hge
  ·exfalso;have g:=decDigits_good u;rcases Nat.eq_zero_or_pos u with rfl | hu
   ·rw [nDigits_small (by omega)] at hlt;omega
   ·have h1:=evalD_pos_of_head _ g.1 g.2.1 (decDigits_head u hu);rw [evalD_decDigits,decDigits_length] at h1;have h2:10 ^ k≤10 ^ (nDigits u - 1):=Nat.pow_le_pow_right (by decide) (by omega);omega
  ·exact hge
def val:List Nat→Nat
 | []=>0
 | d :: l=>d+10000 * val l
def Small (l:List Nat):Prop:=∀ d ∈ l,d<10000
def Norm (l:List Nat):Prop:=Small l∧l.getLast? ≠ some 0
def gd (l:List Nat) (i:Nat):Nat:=l.getD i 0
theorem small_nil:Small []:=fun _ h=>by cases h
theorem norm_nil:Norm []:=⟨small_nil,by simp⟩
theorem Small.cons {d:Nat} {l:List Nat} (h:Small (d :: l)):d<10000∧Small l:=⟨h d (List.mem_cons_self ..),fun x hx=>h x (List.mem_cons_of_mem _ hx)⟩
theorem Small.mk {d:Nat} {l:List Nat} (h:d<10000) (hl:Small l):Small (d :: l):=fun x hx=>by
 rcases List.mem_cons.1 hx with rfl | hx
 ·exact h
 ·exact hl x hx
theorem Small.append {l m:List Nat} (h:Small l) (hm:Small m):Small (l ++ m):=fun x hx=>by
 rcases List.mem_append.1 hx with hx | hx
 ·exact h x hx
 ·exact hm x hx
theorem Small.take {l:List Nat} (h:Small l) (k:Nat):Small (l.take k):=fun x hx=>h x (List.mem_of_mem_take hx)
theorem Small.get {l:List Nat} (h:Small l) (k:Nat):l.getD k 0<10000:=by
 rw [List.getD_eq_getElem?_getD]
 cases e:l[k]? with
 | none=>simp
 | some x=>exact h x (List.mem_of_getElem? e)
theorem val_append (l m:List Nat):val (l ++ m)=val l+10000 ^ l.length * val m:=by
 induction l with
 | nil=>simp [val]
 | cons d l ih =>
  simp only [List.cons_append,val,ih,List.length_cons,Nat.pow_succ];rw [Nat.mul_add,Nat.mul_comm (10000 ^ l.length) 10000,Nat.mul_assoc];omega
theorem val_lt {l:List Nat} (h:Small l):val l<10000 ^ l.length:=by
 induction l with
 | nil=>simp [val]
 | cons d l ih =>
  have h1:=ih h.cons.2;have h2:=h.cons.1;simp only [val,List.length_cons,Nat.pow_succ];omega
theorem Norm.cons {d:Nat} {l:List Nat} (h:Norm (d :: l)):d<10000∧Norm l∧(l=[]→d≠0):=by
 refine ⟨h.1.cons.1,⟨h.1.cons.2,?_⟩,?_⟩
 ·have h2:=h.2
  cases l with
  | nil=>simp
  | cons x l=>rw [List.getLast?_cons_cons] at h2;exact h2
 ·rintro rfl e;subst e;exact h.2 (by simp)
theorem Norm.val_pos {l:List Nat} (h:Norm l) (hn:l≠[]):0<val l:=by
 induction l with
 | nil=>exact absurd rfl hn
 | cons d l ih =>
  obtain ⟨_,h2,h3⟩:=h.cons;simp only [val];by_cases hl:l=[]
  ·have:=h3 hl;omega
  ·have:=ih h2 hl;omega
theorem Norm.val_ge {l:List Nat} (h:Norm l) (hn:l≠[]):10000 ^ (l.length - 1)≤val l:=by
 induction l with
 | nil=>exact absurd rfl hn
 | cons d l ih =>
  obtain ⟨_,h2,h3⟩:=h.cons;simp only [val,List.length_cons,Nat.add_sub_cancel];by_cases hl:l=[]
  ·subst hl;have:=h3 rfl;simp [val];omega
  ·have h4:=ih h2 hl;have h5:0<l.length:=List.length_pos_iff.2 hl;rw [show l.length=(l.length - 1)+1 by omega,Nat.pow_succ];omega
theorem Norm.val_zero {l:List Nat} (h:Norm l):val l=0 ↔ l=[]:=by
 constructor
 ·intro e;by_cases hl:l=[]
  ·exact hl
  ·have:=h.val_pos hl;omega
 ·rintro rfl;rfl
theorem Norm.inj:∀ {l m:List Nat},Norm l→Norm m→val l=val m→l=m:=by
 intro l
 induction l with
 | nil =>
  intro m _ hm e;exact ((hm.val_zero).1 e.symm).symm
 | cons d l ih =>
  intro m hl hm e
  cases m with
  | nil=>exact absurd ((hl.val_zero).1 e) (by simp)
  | cons x m =>
   have h1:=hl.cons;have h2:=hm.cons;simp only [val] at e;have e1:d=x:=by omega
   have e2:val l=val m:=by omega
   rw [e1,ih h1.2.1 h2.2.1 e2]
theorem Norm.lt_of_length {l m:List Nat} (h:Norm l) (hm:Norm m) (hlt:l.length<m.length):val l<val m:=by
 have h1:=val_lt h.1;have h2:=hm.val_ge (by rintro rfl;simp at hlt);have h3:10000 ^ l.length≤10000 ^ (m.length - 1):=Nat.pow_le_pow_right (by decide) (by omega);omega
theorem val_lt_of_get {l m:List Nat} (h:Small l) (hlen:l.length=m.length) (i:Nat) (hi:i<l.length) (hlt:l.getD i 0<m.getD i 0)
  (heq:∀ j,i<j→j<l.length→l.getD j 0=m.getD j 0):val l<val m:=by
 induction l generalizing m i with
 | nil=>simp at hi
 | cons d l ih =>
  cases m with
  | nil=>simp at hlen
  | cons x m =>
   simp only [List.length_cons,Nat.add_right_cancel_iff] at hlen;simp only [val]
   cases i with
   | zero =>
    simp only [List.getD_cons_zero] at hlt;have e:l=m:=by
     apply List.ext_getElem hlen;intro j h1 h2;have:=heq (j+1) (by omega) (by simp;omega);simp only [List.getD_cons_succ] at this;rw [List.getD_eq_getElem?_getD,List.getD_eq_getElem?_getD,List.getElem?_eq_getElem h1,List.getElem?_eq_getElem h2] at this;simpa using this
    rw [e];omega
   | succ i =>
    simp only [List.getD_cons_succ] at hlt;have h1:=ih h.cons.2 hlen i (by simpa using hi) hlt (fun j a b=>by
     have:=heq (j+1) (by omega) (by simp;omega);simpa only [List.getD_cons_succ] using this)
    have h2:=h.cons.1;omega
theorem eq_of_get {l m:List Nat} (hlen:l.length=m.length) (heq:∀ j,j<l.length→l.getD j 0=m.getD j 0):l=m:=by
 apply List.ext_getElem hlen;intro j h1 h2;have:=heq j h1;rw [List.getD_eq_getElem?_getD,List.getD_eq_getElem?_getD,List.getElem?_eq_getElem h1,List.getElem?_eq_getElem h2] at this;simpa using this
theorem val_zeros (l:List Nat) (k:Nat) (hz:∀ j,k≤j→l.getD j 0=0):val (l.take k)=val l:=by
 induction l generalizing k with
 | nil=>simp
 | cons d l ih =>
  cases k with
  | zero =>
   have h0:=hz 0 (Nat.le_refl _);simp only [List.getD_cons_zero] at h0;have h1:=ih 0 (fun j _=>by have:=hz (j+1) (by omega);simpa only [List.getD_cons_succ] using this);simp only [List.take_zero,val] at h1 ⊢;omega
  | succ k =>
   have h1:=ih k (fun j hj=>by have:=hz (j+1) (by omega);simpa only [List.getD_cons_succ] using this);simp only [List.take_succ_cons,val,h1]
theorem norm_take {l:List Nat} (h:Small l) (k:Nat) (hk:k≤l.length) (hne:0<k→l.getD (k - 1) 0≠0):Norm (l.take k):=by
 refine ⟨h.take k,?_⟩;intro e;rw [List.getLast?_eq_getElem?,List.length_take,Nat.min_eq_left hk] at e;rcases Nat.eq_zero_or_pos k with rfl | hp
 ·simp at e
 ·rw [List.getElem?_take_of_lt (by omega)] at e;apply hne hp;rw [List.getD_eq_getElem?_getD,e];rfl
def sumF (f:Nat→Int):Nat→Int
 | 0=>0
 | i+1=>sumF f i+f i * 10000 ^ i
theorem val_snoc (l:List Nat) (d:Nat):val (l ++ [d])=val l+d * 10000 ^ l.length:=by
 rw [val_append];simp only [val,Nat.mul_zero,Nat.add_zero];rw [Nat.mul_comm]
theorem sumF_val (l:List Nat):∀ n,l.length≤n→sumF (fun i=>(l.getD i 0:Nat)) n=val l:=by
 have key:∀ k,sumF (fun i=>(l.getD i 0:Nat)) k=val (l.take k):=by
  intro k
  induction k with
  | zero=>simp [sumF,val]
  | succ k ih =>
   simp only [sumF,ih];by_cases hk:k<l.length
   ·have e:l.take (k+1)=l.take k ++ [l.getD k 0]:=by
     rw [List.take_succ_eq_append_getElem hk,List.getD_eq_getElem?_getD,List.getElem?_eq_getElem hk];rfl
    rw [e,val_snoc,List.length_take,Nat.min_eq_left (by omega)];simp
   ·have e0:l.getD k 0=0:=by rw [List.getD_eq_getElem?_getD,List.getElem?_eq_none (by omega)];rfl
    rw [e0,List.take_of_length_le (by omega),List.take_of_length_le (by omega)];simp
 intro n hn;rw [key,List.take_of_length_le hn]
theorem sumF_add (f g:Nat→Int) (n:Nat):sumF (fun i=>f i+g i) n=sumF f n+sumF g n:=by
 induction n with
 | zero=>simp [sumF]
 | succ n ih=>simp only [sumF,ih,Int.add_mul];omega
theorem sumF_sub (f g:Nat→Int) (n:Nat):sumF (fun i=>f i - g i) n=sumF f n - sumF g n:=by
 induction n with
 | zero=>simp [sumF]
 | succ n ih=>simp only [sumF,ih,Int.sub_mul];omega
theorem sumF_mul (f:Nat→Int) (c:Int) (n:Nat):sumF (fun i=>f i * c) n=sumF f n * c:=by
 induction n with
 | zero=>simp [sumF]
 | succ n ih =>
  simp only [sumF,ih,Int.add_mul];rw [Int.mul_assoc (f n) c,Int.mul_comm c,← Int.mul_assoc]
def pad4 (d:Nat):List UInt8:=List.replicate (4 - (decDigits d).length) 48 ++ decDigits d
theorem dec_len4 {d:Nat} (h:d<10000):(decDigits d).length≤4:=((decDigits_lt d 4).2 ⟨by simpa using h,by decide⟩).1
theorem dec_len_pos (d:Nat):1≤(decDigits d).length:=by rw [decDigits_length];exact nDigits_pos d
theorem pad4_length {d:Nat} (h:d<10000):(pad4 d).length=4:=by
 have:=dec_len4 h;unfold pad4;rw [List.length_append,List.length_replicate];omega
theorem evalD_zeros (k:Nat) (l:List UInt8):evalD (List.replicate k 48 ++ l)=evalD l:=by
 induction k with
 | zero=>simp
 | succ k ih =>
  rw [List.replicate_succ,List.cons_append,evalD_cons,ih];simp
theorem evalD_pad4 (d:Nat):evalD (pad4 d)=d:=by unfold pad4;rw [evalD_zeros,evalD_decDigits]
theorem pad4_dig (d:Nat):∀ c ∈ pad4 d,isDig c=true:=by
 intro c hc;rcases List.mem_append.1 hc with hc | hc
 ·obtain ⟨_,rfl⟩:=List.mem_replicate.1 hc;rfl
 ·exact decDigits_dig d c hc
def textH:List Nat→List UInt8
 | []=>[]
 | t :: r=>decDigits t ++ r.flatMap pad4
theorem textH_snoc (l:List Nat) (d:Nat) (h:l≠[]):textH (l ++ [d])=textH l ++ pad4 d:=by
 cases l with
 | nil=>exact absurd rfl h
 | cons t r=>simp [textH]
theorem textH_dig (l:List Nat):∀ c ∈ textH l,isDig c=true:=by
 cases l with
 | nil=>intro c hc;cases hc
 | cons t r =>
  intro c hc;rcases List.mem_append.1 hc with hc | hc
  ·exact decDigits_dig t c hc
  ·obtain ⟨d,_,hd⟩:=List.mem_flatMap.1 hc;exact pad4_dig d c hd
theorem flat_length (r:List Nat) (h:Small r):(r.flatMap pad4).length=4 * r.length:=by
 induction r with
 | nil=>rfl
 | cons d r ih =>
  rw [List.flatMap_cons,List.length_append,pad4_length h.cons.1,ih h.cons.2,List.length_cons];omega
theorem evalD_flat (r:List Nat) (h:Small r):evalD (r.flatMap pad4)=val r.reverse:=by
 induction r with
 | nil=>rfl
 | cons d r ih =>
  rw [List.flatMap_cons,evalD_append,evalD_pad4,ih h.cons.2,flat_length r h.cons.2,List.reverse_cons,val_snoc,List.length_reverse,Nat.pow_mul];have:(10:Nat) ^ 4=10000:=by decide
  rw [this];omega
theorem evalD_textH (l:List Nat) (h:Small l):evalD (textH l)=val l.reverse:=by
 cases l with
 | nil=>rfl
 | cons t r =>
  simp only [textH];rw [evalD_append,evalD_decDigits,evalD_flat r h.cons.2,flat_length r h.cons.2,List.reverse_cons,val_snoc,List.length_reverse,Nat.pow_mul];have:(10:Nat) ^ 4=10000:=by decide
  rw [this];omega
theorem textH_norm {l:List Nat} (h:Norm l) (hn:l≠[]):textH l.reverse=decDigits (val l):=by
 have hs:Small l.reverse:=fun d hd=>h.1 d (List.mem_reverse.1 hd)
 have e:=evalD_textH l.reverse hs;rw [List.reverse_reverse] at e;rw [← e];apply good_eq;have hr:l.reverse≠[]:=by simpa using hn
 refine ⟨?_,textH_dig _,.inr ?_⟩
 ·cases hl:l.reverse with
  | nil=>exact absurd hl hr
  | cons t r=>simp only [textH];intro e;exact decDigits_ne_nil t (List.append_eq_nil_iff.1 e).1
 ·cases hl:l.reverse with
  | nil=>exact absurd hl hr
  | cons t r =>
   simp only [textH];have ht:t≠0:=by
    rintro rfl;apply h.2;have:=congrArg List.head? hl;rw [List.head?_reverse] at this;simpa using this
   rw [List.head?_append];have h1:=decDigits_head t (by omega)
   cases hd:(decDigits t).head? with
   | none=>exact absurd (List.head?_eq_none_iff.1 hd) (decDigits_ne_nil _)
   | some c=>rw [hd] at h1;simpa using h1
/-! ### A string of digits is read four at a time, from its end -/
theorem evalD_chunk (a b:List UInt8) (h:a=[]∨b.length=4):evalD (a ++ b)=evalD b+10000 * evalD a:=by
 rw [evalD_append];rcases h with rfl | h
 ·simp [evalD]
 ·rw [h];have:(10:Nat) ^ 4=10000:=by decide
  rw [this];omega
theorem evalD_small (b:List UInt8) (hd:∀ c ∈ b,isDig c=true) (h:b.length≤4):evalD b<10000:=by
 have h1:=evalD_lt b hd;have h2:(10:Nat) ^ b.length≤10 ^ 4:=Nat.pow_le_pow_right (by decide) h;have:(10:Nat) ^ 4=10000:=by decide
 omega
/-! ### Long division -/
theorem div_step (n r m:Nat) (hn:n<10000) (hr:r<m):(n+10000 * r) / m<10000:=by
 apply Nat.div_lt_of_lt_mul;have:(r+1) * 10000≤m * 10000:=Nat.mul_le_mul_right _ hr;omega
theorem search_mono (R m:Nat) (a b:Nat) (hab:a≤b) (h:decide (R<(a+1) * m)=true):decide (R<(b+1) * m)=true:=by
 simp only [decide_eq_true_eq] at *;exact Nat.lt_of_lt_of_le h (Nat.mul_le_mul_right _ (by omega))
theorem getD_drop (l:List Nat) (i:Nat) (h:i<l.length):l.drop i=l.getD i 0 :: l.drop (i+1):=by
 rw [List.drop_eq_getElem_cons h,List.getD_eq_getElem?_getD,List.getElem?_eq_getElem h];rfl
theorem long_step (l q:List Nat) (i m r:Nat) (hi:i<l.length) (hq:q.length=l.length)
  (h:val (l.drop (i+1))=val (q.drop (i+1)) * m+r) :
  val (l.drop i)=val ((q.set i ((l.getD i 0+10000 * r) / m)).drop i) * m+(l.getD i 0+10000 * r) % m:=by
 rw [getD_drop l i hi,getD_drop _ i (by simp;omega)];have e1:(q.set i ((l.getD i 0+10000 * r) / m)).getD i 0=(l.getD i 0+10000 * r) / m:=by
  rw [List.getD_eq_getElem?_getD,List.getElem?_set_self (by omega)];rfl
 have e2:(q.set i ((l.getD i 0+10000 * r) / m)).drop (i+1)=q.drop (i+1):=by
  rw [List.drop_set];simp
 simp only [val];rw [e1,e2,h];have h3:=Nat.div_add_mod (l.getD i 0+10000 * r) m;generalize (l.getD i 0+10000 * r) / m=a at *;generalize (l.getD i 0+10000 * r) % m=b at *;rw [Nat.mul_comm m a] at h3;rw [Nat.add_mul,Nat.mul_assoc 10000];have:10000 * (val (q.drop (i+1)) * m+r)=10000 * (val (q.drop (i+1)) * m)+10000 * r:=Nat.mul_add ..;omega
theorem div_unique' {x q m r:Nat} (h:x=q * m+r) (hr:r<m):q=x / m∧r=x % m:=by
 have hm:0<m:=by omega
 constructor
 ·rw [h,Nat.add_comm,Nat.add_mul_div_right _ _ hm,Nat.div_eq_of_lt hr];omega
 ·rw [h,Nat.add_comm,Nat.add_mul_mod_self_right,Nat.mod_eq_of_lt hr]
/-! ### Newton's steps -/
theorem sq_lt_sq {a b:Nat} (h:a * a<b * b):a<b:=by
 rcases Nat.lt_or_ge a b with h1 | h1
 ·exact h1
 ·have:=Nat.mul_le_mul h1 h1;omega
theorem newton_above (x r:Nat) (hr:0<r):x<((r+x / r) / 2+1) * ((r+x / r) / 2+1):=by
 have h1:x<r * (x / r+1):=by
  have:=Nat.div_add_mod x r;have h2:=Nat.mod_lt x hr;rw [Nat.mul_add];omega
 generalize x / r=q at *;have h3:r+q≤2 * ((r+q) / 2)+1:=by omega
 generalize hn:(r+q) / 2=n at *
 -- 4 * r * (q + 1) ≤ (r + q + 1)²
 have h4:4 * (r * (q+1))≤(r+(q+1)) * (r+(q+1)):=by
  rcases Nat.le_total r (q+1) with h | h
  ·obtain ⟨d,hd⟩:=Nat.exists_eq_add_of_le h;rw [hd];have e:(r+(r+d)) * (r+(r+d))=4 * (r * (r+d))+d * d:=by
    simp only [Nat.mul_add,Nat.add_mul];have:=Nat.mul_comm d r;omega
   omega
  ·obtain ⟨d,hd⟩:=Nat.exists_eq_add_of_le h;rw [hd];generalize q+1=p;have e:(p+d+p) * (p+d+p)=4 * ((p+d) * p)+d * d:=by
    simp only [Nat.mul_add,Nat.add_mul];have:=Nat.mul_comm d p;omega
   omega
 have h5:r+(q+1)≤2 * (n+1):=by omega
 have h6:=Nat.mul_le_mul h5 h5;have h7:2 * (n+1) * (2 * (n+1))=4 * ((n+1) * (n+1)):=by
  rw [Nat.mul_mul_mul_comm]
 omega
theorem newton_stop (x r:Nat) (h:r≤(r+x / r) / 2):r * r≤x:=by
 have h1:r≤x / r:=by omega
 have:=Nat.mul_le_mul_left r h1;exact Nat.le_trans this (Nat.mul_div_le x r)
theorem newton_start (x k:Nat) (h:x<10000 ^ (2 * k)):x<(10000 ^ k+1) * (10000 ^ k+1):=by
 rw [show 2 * k=k+k by omega,Nat.pow_add] at h;have:=Nat.mul_le_mul (Nat.le_succ (10000 ^ k)) (Nat.le_succ (10000 ^ k));exact Nat.lt_of_lt_of_le h this
def IsRoot (x r:Nat):Prop:=r * r≤x∧x<(r+1) * (r+1)
theorem IsRoot.unique {x r s:Nat} (h:IsRoot x r) (h':IsRoot x s):r=s:=by
 have h1:=sq_lt_sq (Nat.lt_of_le_of_lt h.1 h'.2);have h2:=sq_lt_sq (Nat.lt_of_le_of_lt h'.1 h.2);omega
def body (s:List UInt8):List UInt8:=if s.head? = some 45 then s.tail else s
def validB (s:List UInt8):Bool :=
 !((body s).isEmpty) && decide ((body s).length≤200) && (body s).all isDig && (s == [48] || (body s).head? != some 48)
def Fits (z:Int):Prop:=z.natAbs<10 ^ 200
instance (z:Int):Decidable (Fits z):=inferInstanceAs (Decidable (_<_))
theorem itoa_nn (u:Nat):itoa (u:Int)=decDigits u:=by unfold itoa;rw [if_neg (by omega)];simp
theorem itoa_ng (u:Nat) (h:0<u):itoa (-(u:Int))=45 :: decDigits u:=by unfold itoa;rw [if_pos (by omega)];simp
theorem isDig_45:isDig 45=false:=by decide
theorem dec_head_45 (u:Nat):(decDigits u).head? ≠ some 45:=by
 intro h;have hm:=List.mem_of_mem_head? h;have:=decDigits_dig u 45 hm;rw [isDig_45] at this;cases this
theorem body_itoa (z:Int):body (itoa z)=decDigits z.natAbs:=by
 rcases Int.lt_or_le z 0 with h | h
 ·have e:z = -(z.natAbs:Int):=by omega
  rw [e,itoa_ng _ (by omega)];simp [body]
 ·have e:z=(z.natAbs:Int):=by omega
  rw [e,itoa_nn];unfold body;rw [if_neg (dec_head_45 _)];simp
theorem itoa_head (z:Int):(itoa z).head? = some 45 ↔ z<0:=by
 rcases Int.lt_or_le z 0 with h | h
 ·have e:z = -(z.natAbs:Int):=by omega
  rw [e,itoa_ng _ (by omega)];simp;omega
 ·have e:z=(z.natAbs:Int):=by omega
  rw [e,itoa_nn];constructor
  ·intro h';exact absurd h' (dec_head_45 _)
  ·intro h';omega
theorem itoa_inj {a b:Int} (h:itoa a=itoa b):a=b:=by
 have h1:=itoa_head a;have h2:=itoa_head b;rw [h] at h1;have h3:=congrArg body h;rw [body_itoa,body_itoa] at h3;have h4:=decDigits_inj h3;have h5:a<0 ↔ b<0:=h1.symm.trans h2;omega
theorem dec_lt (u k:Nat) (hk:0<k):(decDigits u).length≤k ↔ u<10 ^ k:=by
 have:=decDigits_lt u k;constructor
 ·intro h;exact (this.1 ⟨h,hk⟩).1
 ·intro h;exact (this.2 ⟨h,hk⟩).1
theorem fits_iff (z:Int):(decDigits z.natAbs).length≤200 ↔ Fits z:=dec_lt _ 200 (by decide)
theorem validB_itoa (z:Int) (h:Fits z):validB (itoa z)=true:=by
 unfold validB;rw [body_itoa];have g:=decDigits_good z.natAbs;have h1:(decDigits z.natAbs).isEmpty=false:=by simpa using g.1
 have h2:(decDigits z.natAbs).all isDig=true:=by simpa [List.all_eq_true] using g.2.1
 rw [h1,h2,decide_eq_true ((fits_iff z).2 h)];rcases Nat.eq_zero_or_pos z.natAbs with e | e
 ·have:z=((0:Nat):Int):=by omega
  rw [this,itoa_nn,decDigits_zero];rfl
 ·have:=decDigits_head _ e;simp [this]
theorem validB_elim (s:List UInt8) (h:validB s=true):∃ z:Int,Fits z∧s=itoa z:=by
 unfold validB at h;simp only [Bool.and_eq_true,Bool.not_eq_true',decide_eq_true_eq,Bool.or_eq_true,beq_iff_eq,bne_iff_ne] at h;obtain ⟨⟨⟨h1,h2⟩,h3⟩,h4⟩:=h;have hn:body s≠[]:=by intro e;rw [e] at h1;cases h1
 have hd:∀ c ∈ body s,isDig c=true:=List.all_eq_true.1 h3;by_cases hm:s.head? = some 45
 ·-- negative
  have e:body s=s.tail:=by unfold body;rw [if_pos hm]
  have es:s=45 :: body s:=by
   rw [e]
   cases s with
   | nil=>cases hm
   | cons c r=>simp at hm;subst hm;rfl
  have hh:(body s).head? ≠ some 48:=by
   rcases h4 with h4 | h4
   ·rw [h4] at hm;cases hm
   ·exact h4
  have g:goodD (body s):=⟨hn,hd,.inr hh⟩
  have e2:=good_eq g;have hp:0<evalD (body s):=by
   have:=evalD_pos_of_head _ hn hd hh;have:0<10 ^ ((body s).length - 1):=Nat.pow_pos (by decide);omega
  refine ⟨-(evalD (body s):Int),?_,?_⟩
  ·refine (fits_iff _).1 ?_;rw [Int.natAbs_neg,Int.natAbs_natCast,← e2];exact h2
  ·rw [itoa_ng _ hp,← e2];exact es
 ·have e:body s=s:=by unfold body;rw [if_neg hm]
  rw [e] at hn hd h2 h4;have g:goodD s:=⟨hn,hd,h4⟩
  have e2:=good_eq g;refine ⟨(evalD s:Int),?_,?_⟩
  ·refine (fits_iff _).1 ?_;rw [Int.natAbs_natCast,← e2];exact h2
  ·rw [itoa_nn,← e2]
def zOf (s:List UInt8):Int:=if s.head? = some 45 then -(evalD (body s):Int) else evalD (body s)
theorem zOf_itoa (z:Int):zOf (itoa z)=z:=by
 unfold zOf;rw [body_itoa,evalD_decDigits];by_cases h:z<0
 ·rw [if_pos ((itoa_head z).2 h)];omega
 ·rw [if_neg (fun e=>h ((itoa_head z).1 e))];omega
end Go.Proofs.YtdikaoahgleffaaGreatDoor
namespace Go.Proofs.YtdikaoahgleffaaGreatDoor
open Go.Lib
def IsInt (z:Int):Prop := -9223372036854775808≤z∧z≤9223372036854775807
instance (z:Int):Decidable (IsInt z):=inferInstanceAs (Decidable (_∧_))
/-! ### Quotients and remainders -/
theorem div_of {x y q r:Int} (h:r+y * q=x) (h0:0≤r) (h1:r<y.natAbs):x / y=q∧x % y=r:=by
 rcases Int.lt_trichotomy y 0 with hy | hy | hy
 ·exact (Int.ediv_emod_unique' hy).2 ⟨h,h0,by omega⟩
 ·omega
 ·exact (Int.ediv_emod_unique hy).2 ⟨h,h0,by omega⟩
theorem div_plain (x y:Int) (hy:y≠0) (h:0≤x∨x.natAbs % y.natAbs=0) :
  (if (x<0 ↔ y<0) then ((x.natAbs / y.natAbs:Nat):Int) else -((x.natAbs / y.natAbs:Nat):Int))=x / y∧((x.natAbs % y.natAbs:Nat):Int)=x % y:=by
 have hdm:=Nat.div_add_mod x.natAbs y.natAbs;have hlt:=Nat.mod_lt x.natAbs (show 0<y.natAbs by omega);generalize x.natAbs / y.natAbs=Q at *;generalize x.natAbs % y.natAbs=R at *;have e:(y.natAbs:Int) * (Q:Int)+R=x.natAbs:=by rw [← hdm];simp
 rcases Int.lt_or_le x 0 with hx | hx <;> rcases Int.lt_or_le y 0 with hy' | hy'
 ·rw [if_pos (by omega)];rw [show (y.natAbs:Int) = -y by omega,show (x.natAbs:Int) = -x by omega,Int.neg_mul] at e;have:=div_of (x:=x) (y:=y) (q:=Q) (r:=R) (by omega) (by omega) (by omega);exact ⟨this.1.symm,this.2.symm⟩
 ·rw [if_neg (by omega)];rw [show (y.natAbs:Int)=y by omega,show (x.natAbs:Int) = -x by omega] at e;have:=div_of (x:=x) (y:=y) (q := -Q) (r:=R) (by rw [Int.mul_neg];omega) (by omega) (by omega);exact ⟨this.1.symm,this.2.symm⟩
 ·rw [if_neg (by omega)];rw [show (y.natAbs:Int) = -y by omega,show (x.natAbs:Int)=x by omega,Int.neg_mul] at e;have:=div_of (x:=x) (y:=y) (q := -Q) (r:=R) (by rw [Int.mul_neg];omega) (by omega) (by omega);exact ⟨this.1.symm,this.2.symm⟩
 ·rw [if_pos (by omega)];rw [show (y.natAbs:Int)=y by omega,show (x.natAbs:Int)=x by omega] at e;have:=div_of (x:=x) (y:=y) (q:=Q) (r:=R) (by omega) (by omega) (by omega);exact ⟨this.1.symm,this.2.symm⟩
theorem div_fixed (x y:Int) (hy:y≠0) (hx:x<0) (h:x.natAbs % y.natAbs≠0) :
  (if (x<0 ↔ y<0) then ((x.natAbs / y.natAbs+1:Nat):Int) else -((x.natAbs / y.natAbs+1:Nat):Int))=x / y∧((y.natAbs - x.natAbs % y.natAbs:Nat):Int)=x % y:=by
 have hdm:=Nat.div_add_mod x.natAbs y.natAbs;have hlt:=Nat.mod_lt x.natAbs (show 0<y.natAbs by omega);generalize x.natAbs / y.natAbs=Q at *;generalize x.natAbs % y.natAbs=R at *;have e:(y.natAbs:Int) * (Q:Int)+R=x.natAbs:=by rw [← hdm];simp
 rcases Int.lt_or_le y 0 with hy' | hy'
 ·rw [if_pos (by omega)];rw [show (y.natAbs:Int) = -y by omega,show (x.natAbs:Int) = -x by omega,Int.neg_mul] at e;have:=div_of (x:=x) (y:=y) (q:=((Q+1:Nat):Int)) (r:=((y.natAbs - R:Nat):Int)) (by rw [Int.natCast_add,Int.mul_add];simp;omega) (by omega) (by omega);exact ⟨this.1.symm,this.2.symm⟩
 ·rw [if_neg (by omega)];rw [show (y.natAbs:Int)=y by omega,show (x.natAbs:Int) = -x by omega] at e;have:=div_of (x:=x) (y:=y) (q := -((Q+1:Nat):Int)) (r:=((y.natAbs - R:Nat):Int)) (by rw [Int.mul_neg,Int.natCast_add,Int.mul_add];simp;omega) (by omega) (by omega);exact ⟨this.1.symm,this.2.symm⟩
theorem div_fits {x y:Int} (hx:Fits x) (hy:Fits y) (hy0:y≠0):Fits (x / y)∧Fits (x % y):=by
 unfold Fits at *;generalize (10:Nat) ^ 200=T at *;refine ⟨Nat.lt_of_le_of_lt (Int.natAbs_ediv_le_natAbs x y) hx,?_⟩;have h1:=Int.emod_nonneg x hy0;have h2:=Int.emod_lt x hy0;omega
end Go.Proofs.YtdikaoahgleffaaGreatDoor
namespace Go.Proofs.YtdikaoahgleffaaGreatDoor
open Go.Lib
def Dig (k:Nat) (z:Int):Prop:=z.natAbs<10 ^ k
theorem Dig.mono {j k:Nat} {z:Int} (h:Dig j z) (hjk:j≤k):Dig k z:=Nat.lt_of_lt_of_le h (Nat.pow_le_pow_right (by decide) hjk)
theorem Dig.fits {k:Nat} {z:Int} (h:Dig k z) (hk:k≤200):Fits z:=h.mono hk
theorem Fits.dig {z:Int} (h:Fits z):Dig 200 z:=h
theorem Dig.neg {k:Nat} {x:Int} (h:Dig k x):Dig k (-x):=by unfold Dig at *;rwa [Int.natAbs_neg]
theorem Dig.add {k:Nat} {x y:Int} (h:Dig k x) (h':Dig k y):Dig (k+1) (x+y):=by
 unfold Dig at *;have:=Int.natAbs_add_le x y;rw [Nat.pow_succ];omega
theorem Dig.sub {k:Nat} {x y:Int} (h:Dig k x) (h':Dig k y):Dig (k+1) (x - y):=by
 rw [Int.sub_eq_add_neg];exact h.add h'.neg
theorem Dig.mul {j k:Nat} {x y:Int} (h:Dig j x) (h':Dig k y):Dig (j+k) (x * y):=by
 unfold Dig at *;rw [Int.natAbs_mul,Nat.pow_add];exact Nat.mul_lt_mul'' h h'
theorem Dig.of_le {k:Nat} {x y:Int} (h:Dig k y) (hxy:x.natAbs≤y.natAbs):Dig k x:=Nat.lt_of_le_of_lt hxy h
theorem Dig.ediv {k:Nat} {x:Int} (h:Dig k x) (y:Int):Dig k (x / y):=h.of_le (Int.natAbs_ediv_le_natAbs x y)
theorem Dig.emod {k:Nat} {y:Int} (x:Int) (h:Dig k y) (hy:y≠0):Dig k (x % y):=h.of_le (by
 have h1:=Int.emod_nonneg x hy;have h2:=Int.emod_lt x hy;omega)
theorem dig_small {k:Nat} {z:Int} (h:z.natAbs<10) (hk:0<k):Dig k z:=by
 have:(10:Nat) ^ 1≤10 ^ k:=Nat.pow_le_pow_right (by decide) hk;unfold Dig;omega
theorem dig_int {z:Int} (h:IsInt z):Dig 19 z:=by unfold IsInt at h;unfold Dig;omega
/-! ### Digits in base ten, the lowest first -/
def val10:List Nat→Nat
 | []=>0
 | d :: l=>d+10 * val10 l
def Small10 (l:List Nat):Prop:=∀ d ∈ l,d<10
def Norm10 (l:List Nat):Prop:=Small10 l∧l.getLast? ≠ some 0
theorem small10_nil:Small10 []:=fun _ h=>by cases h
theorem norm10_nil:Norm10 []:=⟨small10_nil,by simp⟩
theorem Small10.cons {d:Nat} {l:List Nat} (h:Small10 (d :: l)):d<10∧Small10 l:=⟨h d (List.mem_cons_self ..),fun x hx=>h x (List.mem_cons_of_mem _ hx)⟩
theorem Small10.mk {d:Nat} {l:List Nat} (h:d<10) (hl:Small10 l):Small10 (d :: l):=fun x hx=>by
 rcases List.mem_cons.1 hx with rfl | hx
 ·exact h
 ·exact hl x hx
theorem Small10.append {l m:List Nat} (h:Small10 l) (hm:Small10 m):Small10 (l ++ m):=fun x hx=>by
 rcases List.mem_append.1 hx with hx | hx
 ·exact h x hx
 ·exact hm x hx
theorem Small10.take {l:List Nat} (h:Small10 l) (k:Nat):Small10 (l.take k):=fun x hx=>h x (List.mem_of_mem_take hx)
theorem Small10.get {l:List Nat} (h:Small10 l) (k:Nat):l.getD k 0<10:=by
 rw [List.getD_eq_getElem?_getD]
 cases e:l[k]? with
 | none=>simp
 | some x=>exact h x (List.mem_of_getElem? e)
theorem val10_append (l m:List Nat):val10 (l ++ m)=val10 l+10 ^ l.length * val10 m:=by
 induction l with
 | nil=>simp [val10]
 | cons d l ih =>
  simp only [List.cons_append,val10,ih,List.length_cons,Nat.pow_succ];rw [Nat.mul_add,Nat.mul_comm (10 ^ l.length) 10,Nat.mul_assoc];omega
theorem val10_snoc (l:List Nat) (d:Nat):val10 (l ++ [d])=val10 l+d * 10 ^ l.length:=by
 rw [val10_append];simp only [val10,Nat.mul_zero,Nat.add_zero];rw [Nat.mul_comm]
theorem val10_lt {l:List Nat} (h:Small10 l):val10 l<10 ^ l.length:=by
 induction l with
 | nil=>simp [val10]
 | cons d l ih =>
  have h1:=ih h.cons.2;have h2:=h.cons.1;simp only [val10,List.length_cons,Nat.pow_succ];omega
theorem val10_zeros (l:List Nat) (k:Nat) (hz:∀ j,k≤j→l.getD j 0=0):val10 (l.take k)=val10 l:=by
 induction l generalizing k with
 | nil=>simp
 | cons d l ih =>
  cases k with
  | zero =>
   have h0:=hz 0 (Nat.le_refl _);simp only [List.getD_cons_zero] at h0;have h1:=ih 0 (fun j _=>by have:=hz (j+1) (by omega);simpa only [List.getD_cons_succ] using this);simp only [List.take_zero,val10] at h1 ⊢;omega
  | succ k =>
   have h1:=ih k (fun j hj=>by have:=hz (j+1) (by omega);simpa only [List.getD_cons_succ] using this);simp only [List.take_succ_cons,val10,h1]
theorem norm10_take {l:List Nat} (h:Small10 l) (k:Nat) (hk:k≤l.length) (hne:0<k→l.getD (k - 1) 0≠0):Norm10 (l.take k):=by
 refine ⟨h.take k,?_⟩;intro e;rw [List.getLast?_eq_getElem?,List.length_take,Nat.min_eq_left hk] at e;rcases Nat.eq_zero_or_pos k with rfl | hp
 ·simp at e
 ·rw [List.getElem?_take_of_lt (by omega)] at e;apply hne hp;rw [List.getD_eq_getElem?_getD,e];rfl
def txt10 (l:List Nat):List UInt8:=l.reverse.map fun d=>UInt8.ofNat (48+d)
theorem txt10_snoc (l:List Nat) (d:Nat):txt10 (l ++ [d])=UInt8.ofNat (48+d) :: txt10 l:=by simp [txt10]
theorem txt10_cons (l:List Nat) (d:Nat):txt10 (d :: l)=txt10 l ++ [UInt8.ofNat (48+d)]:=by simp [txt10]
theorem evalD_txt10 {l:List Nat} (h:Small10 l):evalD (txt10 l)=val10 l:=by
 induction l with
 | nil=>rfl
 | cons d l ih =>
  rw [txt10_cons,evalD_snoc,ih h.cons.2,toNat_dig d h.cons.1];simp only [val10];omega
theorem txt10_dig {l:List Nat} (h:Small10 l):∀ c ∈ txt10 l,isDig c=true:=by
 intro c hc;obtain ⟨d,hd,rfl⟩:=List.mem_map.1 hc;exact isDig_ofNat d (h d (List.mem_reverse.1 hd))
theorem txt10_norm {l:List Nat} (h:Norm10 l) (hn:l≠[]):txt10 l=decDigits (val10 l):=by
 rw [← evalD_txt10 h.1];apply good_eq;refine ⟨by simpa [txt10] using hn,txt10_dig h.1,.inr ?_⟩;obtain ⟨m,d,rfl⟩:∃ m d,l=m ++ [d]:=⟨l.dropLast,l.getLast hn,(List.dropLast_concat_getLast hn).symm⟩
 rw [txt10_snoc];simp only [List.head?_cons];intro e;injection e with e;have hd:d<10:=h.1 d (by simp);have h1:=congrArg UInt8.toNat e;rw [toNat_dig d hd] at h1;have h2:d=0:=by simpa using h1
 exact h.2 (by simp [h2])
theorem Norm10.val_pos {l:List Nat} (h:Norm10 l) (hn:l≠[]):0<val10 l:=by
 have h1:=txt10_norm h hn;rcases Nat.eq_zero_or_pos (val10 l) with e | e
 ·exfalso;rw [e,decDigits_zero] at h1;obtain ⟨m,d,rfl⟩:∃ m d,l=m ++ [d]:=⟨l.dropLast,l.getLast hn,(List.dropLast_concat_getLast hn).symm⟩
  rw [txt10_snoc] at h1;injection h1 with h1 _;have hd:d<10:=h.1 d (by simp);have h3:=congrArg UInt8.toNat h1;rw [toNat_dig d hd] at h3;have h2:d=0:=by simpa using h3
  exact h.2 (by simp [h2])
 ·exact e
/-! ### Common divisors -/
def S (z:Int):ByteArray:=⟨(itoa z).toArray⟩
def Is (a:ByteArray) (z:Int):Prop:=a.data.toList=itoa z
theorem is_S (z:Int):Is (S z) z:=by unfold Is S;simp
theorem Is.eq {a:ByteArray} {z:Int} (h:Is a z):a=S z:=by
 unfold Is at h;unfold S;rw [← h]
theorem S_size {z:Int} (h:Fits z):(S z).size≤201:=by
 have e:(S z).size=(itoa z).length:=by unfold S ByteArray.size;simp
 rw [e];have h1:=(fits_iff z).2 h;have h2:=body_itoa z;have h3:(itoa z).length≤(body (itoa z)).length+1:=by
  unfold body;split
  ·rw [List.length_tail];omega
  ·omega
 rw [h2] at h3;omega
end Go.Proofs.YtdikaoahgleffaaGreatDoor
