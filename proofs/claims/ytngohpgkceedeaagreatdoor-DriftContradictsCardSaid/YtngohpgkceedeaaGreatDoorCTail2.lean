/-
  Regions that draw their order, make several new blocks, and end in stores: the new blocks lie apart, whatever the order.
-/
import Derived.Test.YtngohpgkceedeaaGreatDoorCTail
set_option linter.unusedSimpArgs false
set_option linter.unusedVariables false
namespace Go.Proofs.YtngohpgkceedeaaGreatDoor
open Go Go.RowKit Go.Lib Go.Shelf

def isNew (o : Oper) : Bool := (match o.op with | .alloc _ => true | _ => false) && o.guard.isNone
theorem new_run {P : Program} {ρ : Operand → Value} {o : Oper} {W W' : World} {n : Next} (h : isNew o = true) (hr : (execOp ρ o).run P W = .ok n W') : n = .value (.pointer (some ⟨W.heap.size, 0, none⟩)) ∧ W.heap.size < W'.heap.size := by
  unfold isNew at h
  rw [Bool.and_eq_true] at h
  have h1 := h.1
  cases ho : o.op with
  | alloc e =>
    simp [execOp, ho, go_sem] at hr
    cases hz : Sem.run P (zeroValue e) W with
    | halt x W1 => rw [hz] at hr; cases hr
    | ok v W1 =>
      rw [hz] at hr
      simp only [Result.andThen, Result.ok.injEq] at hr
      have hw : W1 = W := by
        unfold zeroValue typeInfo at hz
        cases hi : P.info? e with
        | none => simp [go_sem, hi] at hz
        | some i =>
          cases hzz : i.zero with
          | none => simp [go_sem, hi, hzz] at hz
          | some z => simp [go_sem, hi, hzz] at hz; exact hz.2.symm
      obtain ⟨rfl, rfl⟩ := hr
      subst hw
      exact ⟨rfl, by simp⟩
  | _ => simp [ho] at h1
/-- New blocks lie apart. -/
structure ApartAt (ops : Array Oper) (listed : Array Bool) (a : Act) (W : World) : Prop where
  old : ∀ i (o : Oper) t, ops[i]? = some o → isNew o = true → o.dst = some t → listed.getD i false = true → ∃ b, a.eval (.tmp t) = .pointer (some ⟨b, 0, none⟩) ∧ b < W.heap.size
  apart : ∀ i j (o p : Oper) t s, ops[i]? = some o → ops[j]? = some p → isNew o = true → isNew p = true → o.dst = some t → p.dst = some s → i ≠ j → listed.getD i false = true → listed.getD j false = true → a.eval (.tmp t) ≠ a.eval (.tmp s)
theorem quietAt_step2 {P : Program} {ops : Array Oper} {Q : Exit → Act → World → Prop} {Sp : Nat → QSay} {tmps : Array Value} {ds : List Deferred} {w : World} {fl : List Oper}
    (hmono : ∀ i v W W', Sp i v W → Below W.heap.size W W' → Sp i v W') (hfit : quietFit ops tmps.size = true)
    {i : Nat} {o : Oper} {listed : Array Bool} {a : Act} {W : World} (hob0 : quietOb P ops fl Sp tmps w i o) (hfl : ∀ j (p : Oper), ops[j]? = some p → listed.getD j false = true → p ∈ fl) (ho : ops[i]? = some o) (hJ : QuietAt ops Sp tmps ds w listed a W) (hA : ApartAt ops listed a W)
    (hni : listed.getD i false = false) (hdep : ∀ e ∈ o.after, Region.binds .any e = true → listed.getD e.on false = true) :
    wpOp P ops Q i (fun a' W' => QuietAt ops Sp tmps ds w (listed.setIfInBounds i true) a' W' ∧ ApartAt ops (listed.setIfInBounds i true) a' W') a W := by
  have hob := hob0 a.eval W hJ.below (fun _ => rfl) (fun _ => rfl) (fun _ => rfl)
    (fun t ht => by rw [eval_tmp, Array.getD_eq_getD_getElem?, Array.getD_eq_getD_getElem?, hJ.same t (fun j p hp hl => foreign_mem ht (hfl j p hp hl))])
    (depsSay_of _ fun e he hb p t hp ht => hJ.done e.on p t hp ht (hdep e (by simpa using he) hb))
  have other : ∀ v j (p : Oper) t, ops[j]? = some p → p.dst = some t → j ≠ i → (a.put o.dst v).eval (.tmp t) = a.eval (.tmp t) := by
    intro v j p t hp ht hji
    have h2 := quietFit.own hfit hp ho ht (Ne.symm hji)
    rw [eval_tmp, eval_tmp]
    unfold Act.put
    cases hd : o.dst with
    | none => rfl
    | some d =>
      have : d ≠ t := fun e => h2 (by rw [hd, e])
      simp only
      rw [Array.getD_eq_getD_getElem?, Array.getElem?_setIfInBounds_ne this, ← Array.getD_eq_getD_getElem?]
  have own : ∀ v t, o.dst = some t → (a.put o.dst v).eval (.tmp t) = v := by
    intro v t ht
    rw [eval_tmp]
    unfold Act.put
    rw [ht]
    simp only
    rw [Array.getD_eq_getD_getElem?, Array.getElem?_setIfInBounds_self, if_pos (by rw [hJ.size]; exact quietFit.lt hfit ho ht)]
    rfl
  have fin : ∀ v W', Sp i v W' → Below W.heap.size W W' → (isNew o = true → v = .pointer (some ⟨W.heap.size, 0, none⟩) ∧ W.heap.size < W'.heap.size) → QuietAt ops Sp tmps ds w (listed.setIfInBounds i true) (a.put o.dst v) W' ∧ ApartAt ops (listed.setIfInBounds i true) (a.put o.dst v) W' := by
    intro v W' hs hB hnew
    refine ⟨⟨hJ.below.trans (hB.mono hJ.below.size), ?_, ?_, by rw [Array.size_setIfInBounds]; exact hJ.lsize, ?_, ?_⟩, ⟨?_, ?_⟩⟩
    · rw [← hJ.defers]; unfold Act.put; split <;> rfl
    · rw [← hJ.size]; unfold Act.put; split <;> simp
    · intro j p t hp ht hj
      by_cases hji : j = i
      · subst hji
        rw [ho] at hp; cases hp
        rw [own v t ht]
        exact hs
      · rw [other v j p t hp ht hji]
        exact hmono _ _ _ _ (hJ.done j p t hp ht ((listed_set hj).resolve_left hji)) hB
    · intro t ht
      have hself : o.dst ≠ some t := ht i o ho (listed_self (by rw [hJ.lsize]; exact (Array.getElem?_eq_some_iff.1 ho).1))
      rw [← hJ.same t (fun j p hp hl => ht j p hp (listed_keep hl))]
      unfold Act.put
      cases hd : o.dst with
      | none => rfl
      | some d =>
        have : d ≠ t := fun e => hself (by rw [hd, e])
        simp only
        rw [Array.getElem?_setIfInBounds_ne this]
    · intro j p t hp hn ht hj
      by_cases hji : j = i
      · subst hji
        rw [ho] at hp; cases hp
        rw [own v t ht]
        exact ⟨_, (hnew hn).1, (hnew hn).2⟩
      · rw [other v j p t hp ht hji]
        obtain ⟨b, e, hb⟩ := hA.old j p t hp hn ht ((listed_set hj).resolve_left hji)
        exact ⟨b, e, Nat.lt_of_lt_of_le hb hB.size⟩
    · intro j k p q t s hp hq hnp hnq ht hs' hne hj hk
      by_cases hji : j = i
      · subst hji
        rw [ho] at hp; cases hp
        rw [own v t ht, other v k q s hq hs' (Ne.symm hne), (hnew hnp).1]
        obtain ⟨b, e, hb⟩ := hA.old k q s hq hnq hs' ((listed_set hk).resolve_left (Ne.symm hne))
        rw [e]
        intro h
        simp at h
        try omega
      · rw [other v j p t hp ht hji]
        by_cases hki : k = i
        · subst hki
          rw [ho] at hq; cases hq
          rw [own v s hs', (hnew hnq).1]
          obtain ⟨b, e, hb⟩ := hA.old j p t hp hnp ht ((listed_set hj).resolve_left hji)
          rw [e]
          intro h
          simp at h
          try omega
        · rw [other v k q s hq hs' hki]
          exact hA.apart j k p q t s hp hq hnp hnq ht hs' hne ((listed_set hj).resolve_left hji) ((listed_set hk).resolve_left hki)
  unfold wpOp
  simp only [ho]
  rw [yielded_by]
  split at hob
  · rename_i hw
    rw [if_pos hw]
    left
    unfold Oper.wp Oper.upon
    cases hr : (execOp a.eval o).run P W with
    | ok n W' =>
      rw [hr] at hob
      cases n with
      | value v => exact fin v W' hob.1 hob.2 (fun hn => by have := new_run hn hr; simpa using this)
      | skip => exact fin _ W' hob.1 hob.2 (fun hn => by have := new_run hn hr; cases this.1)
      | enter f args =>
        refine Calls.mono hob.2 fun e W'' he => ?_
        obtain ⟨v, rfl, hs, hB⟩ := he
        exact fin v W'' hs (hob.1.trans (hB.mono hob.1.size)) (fun hn => by have := new_run hn hr; cases this.1)
      | _ => exact hob.elim
    | halt x W' => rw [hr] at hob; exact hob.elim
  · rename_i hw
    rw [if_neg hw]
    refine fin _ W hob (Below.refl _ _) (fun hn => ?_)
    exfalso
    apply hw
    unfold isNew at hn
    rw [Bool.and_eq_true] at hn
    have hg : o.guard = none := by simpa using hn.2
    simp [Region.wanted, hg]
def newDsts : List Oper → List Nat
  | [] => []
  | o :: l => match o.dst with | some t => if isNew o then t :: newDsts l else newDsts l | none => newDsts l
def Apart (L : List Nat) (T : Array Value) : Prop := L.Pairwise fun t s => T.getD t undef ≠ T.getD s undef
theorem mem_newDsts {t : Nat} : ∀ {l : List Oper}, t ∈ newDsts l → ∃ (i : Nat) (o : Oper), l[i]? = some o ∧ isNew o = true ∧ o.dst = some t
  | [], h => by cases h
  | o :: l, h => by
    have back : t ∈ newDsts l → ∃ (i : Nat) (p : Oper), (o :: l)[i]? = some p ∧ isNew p = true ∧ p.dst = some t := fun h => by
      obtain ⟨i, p, h1, h2⟩ := mem_newDsts h
      exact ⟨i + 1, p, by simpa using h1, h2⟩
    unfold newDsts at h
    cases hd : o.dst with
    | none => rw [hd] at h; exact back h
    | some d =>
      rw [hd] at h
      simp only at h
      split at h
      · rename_i hn
        rcases List.mem_cons.1 h with rfl | h
        · exact ⟨0, o, rfl, hn, hd⟩
        · exact back h
      · exact back h
theorem apart_of {T : Array Value} : ∀ {l : List Oper}, (∀ (i j : Nat) (o p : Oper) (t s : Nat), l[i]? = some o → l[j]? = some p → isNew o = true → isNew p = true → o.dst = some t → p.dst = some s → i ≠ j → T.getD t undef ≠ T.getD s undef) → Apart (newDsts l) T
  | [], _ => List.Pairwise.nil
  | o :: l, h => by
    have ih : Apart (newDsts l) T := apart_of fun i j p q t s hp hq h1 h2 h3 h4 hne => h (i + 1) (j + 1) p q t s (by simpa using hp) (by simpa using hq) h1 h2 h3 h4 (by omega)
    unfold newDsts
    cases hd : o.dst with
    | none => exact ih
    | some d =>
      simp only
      split
      · rename_i hn
        refine List.Pairwise.cons (fun s hs => ?_) ih
        obtain ⟨j, p, hp, hnp, hps⟩ := mem_newDsts hs
        exact h 0 (j + 1) o p d s rfl (by simpa using hp) hn hnp hd hps (by omega)
      · exact ih
theorem apart3 {a b c : Nat} {T : Array Value} (h : Apart [a, b, c] T) : T.getD a undef ≠ T.getD b undef ∧ T.getD a undef ≠ T.getD c undef ∧ T.getD b undef ≠ T.getD c undef := by
  unfold Apart at h
  rw [List.pairwise_cons, List.pairwise_cons] at h
  exact ⟨h.1 b (by simp), h.1 c (by simp), h.2.1 c (by simp)⟩
end Go.Proofs.YtngohpgkceedeaaGreatDoor
