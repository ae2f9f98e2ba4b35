/-
  What a list of digits without a zero in front spells. Plain: no program in sight.
-/
import Derived.Test.YtngohpgkceedeaaGreatDoorQPlain6
namespace Go.Proofs.YtngohpgkceedeaaGreatDoor
open Go Go.Lib

/-- Digits, at least one, at most k. -/
def Raw (k : Nat) (l : List UInt8) : Prop := l ≠ [] ∧ l.length ≤ k ∧ ∀ c ∈ l, isDig c = true
theorem raw_is {k : Nat} {l : List UInt8} (h : Raw k l) (hk : k ≤ 200) (h0 : l.length = 1 ∨ l.head? ≠ some 48) : ∃ n : Nat, Is ⟨l.toArray⟩ (n : Int) ∧ n < 10 ^ k := by
  obtain ⟨h1, h2, h3⟩ := h
  have h45 : l.head? ≠ some 45 := fun e => by
    have := h3 45 (List.mem_of_mem_head? e)
    rw [isDig_45] at this; cases this
  have hb : body l = l := by unfold body; rw [if_neg h45]
  have hv : validB l = true := by
    unfold validB
    rw [hb]
    have e1 : l.isEmpty = false := by cases l <;> simp_all
    have e2 : l.all isDig = true := by simpa [List.all_eq_true] using h3
    have e3 : (l == [48] || l.head? != some 48) = true := by
      by_cases hh : l.head? = some 48
      · rcases h0 with h0 | h0
        · match l, h0, hh with
          | [x], _, hh => simp at hh; subst hh; rfl
        · exact absurd hh h0
      · simp [hh]
    rw [e1, e2, e3, decide_eq_true (show l.length ≤ 200 by omega)]
    rfl
  obtain ⟨z, _, hz⟩ := validB_elim l hv
  have hp : ¬ z < 0 := fun hn => h45 (by rw [hz]; exact (itoa_head z).2 hn)
  have e : z = (z.natAbs : Int) := by omega
  have hl : (decDigits z.natAbs).length ≤ k := by rw [← body_itoa, ← hz, hb]; exact h2
  have hk0 : 0 < k := by
    rcases Nat.eq_zero_or_pos k with h | h
    · exact absurd (List.length_eq_zero_iff.1 (by omega)) h1
    · exact h
  refine ⟨z.natAbs, ?_, (dec_lt _ k hk0).1 hl⟩
  unfold Is
  rw [← e]
  exact hz
end Go.Proofs.YtngohpgkceedeaaGreatDoor
