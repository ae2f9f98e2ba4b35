/-
  What the laws' calls hand back: the eight operations' contracts, each as one relation; the two slices of results.
-/
import Derived.Test.YtngohpgkceedeaaGreatDoorEMeet
import Derived.Test.YtngohpgkceedeaaGreatDoorESqrt
import Derived.Test.YtngohpgkceedeaaGreatDoorQPlain7
import Derived.OneCell
set_option linter.unusedSimpArgs false
set_option linter.unusedVariables false
namespace Go.Proofs.YtngohpgkceedeaaGreatDoor
open Go Go.RowKit Go.Lib Go.Shelf

def oS1 : Option Iv → ByteArray | some a => S a.lo.num | none => ⟨#[]⟩
def oS2 : Option Iv → ByteArray | some a => S (a.lo.den : Int) | none => ⟨#[]⟩
def oS3 : Option Iv → ByteArray | some a => S a.hi.num | none => ⟨#[]⟩
def oS4 : Option Iv → ByteArray | some a => S (a.hi.den : Int) | none => ⟨#[]⟩
def oE : Option Iv → Int | some _ => 0 | none => 50
def oC (o : Option Iv) : List Value := [.string (oS1 o), .string (oS2 o), .string (oS3 o), .string (oS4 o)]
def oCells (os : List (Option Iv)) : List Value := os.flatMap oC
def oErrs (os : List (Option Iv)) : List Value := os.map fun o => .int .i64 (oE o)
def opIs (k : Nat) (a b : Iv) (T : Int) (w : World) (e : Ending) (w' : World) : Prop :=
  ∃ o, OpRes k a b T o ∧ e = .returned (.tuple #[.agg #[.string (oS1 o), .string (oS2 o), .string (oS3 o), .string (oS4 o)], .int .i64 (oE o)]) ∧ Below w.heap.size w w'
def Outs (a b : Iv) (T : Int) (os : List (Option Iv)) : Prop := ∀ k o, os[k]? = some o → OpRes k a b T o
def callsOk (a b : Iv) (T : Int) (w : World) (e : Ending) (w' : World) : Prop :=
  ∃ os v u, os.length = 8 ∧ Outs a b T os ∧ e = .returned (.tuple #[v, u]) ∧ w'.ownsRow w.heap.size 29 4 v 8 (oCells os) ∧ w'.ownsRow w.heap.size 31 1 u 8 (oErrs os) ∧ Below w.heap.size w w'

theorem opIs_some {k : Nat} {a b r : Iv} {T : Int} {w : World} {e : Ending} {w' : World} (h : OpRes k a b T (some r)) (he : e = .returned (.tuple #[I r, .int .i64 0])) (hB : Below w.heap.size w w') : opIs k a b T w e w' := ⟨some r, h, he, hB⟩
theorem opIs_none {k : Nat} {a b : Iv} {T : Int} {w : World} {e : Ending} {w' : World} (h : OpRes k a b T none) (he : ivErr w e w') : opIs k a b T w e w' := ⟨none, h, he.1, he.2⟩
theorem Outs.snoc {a b : Iv} {T : Int} {os : List (Option Iv)} {k : Nat} {o : Option Iv} (h : Outs a b T os) (hk : os.length = k) (ho : OpRes k a b T o) : Outs a b T (os ++ [o]) := by
  intro j p hj
  rcases Nat.lt_or_ge j os.length with hlt | hge
  · rw [List.getElem?_append_left hlt] at hj; exact h j p hj
  · rw [List.getElem?_append_right hge] at hj
    rcases hq : j - os.length with _ | m
    · rw [hq] at hj; simp at hj; subst hj
      have : j = k := by omega
      subst this; exact ho
    · rw [hq] at hj; simp at hj
theorem oCells_snoc (os : List (Option Iv)) (o : Option Iv) : oCells os ++ oC o = oCells (os ++ [o]) := by unfold oCells; simp
theorem oErrs_snoc (os : List (Option Iv)) (o : Option Iv) : oErrs os ++ [.int .i64 (oE o)] = oErrs (os ++ [o]) := by unfold oErrs; simp
theorem intervalInfo : (Tryz.prog.info? 29).map (fun i => (i.zero, i.size, i.bytes)) = some (some (.agg #[.string ⟨#[]⟩, .string ⟨#[]⟩, .string ⟨#[]⟩, .string ⟨#[]⟩]), 4, 64) := by kernel_rfl
theorem errnoInfo : (Tryz.prog.info? 31).map (fun i => (i.zero, i.size, i.bytes)) = some (some (.int .i64 0), 1, 8) := by kernel_rfl
theorem row_n {n : Nat} {W W' : World} {b : Nat} {o : Obj} (h : Row W b o) (hb : b < n) (hB : Below n W W') : Row W' b o := ⟨Nat.lt_of_lt_of_le h.1 hB.size, (hB.block b hb).trans h.2⟩
theorem own_lt {w : World} {base : Nat} {e : TypeId} {size : Nat} {v : Value} {n : Nat} {xs : List Value} (h : w.ownsRow base e size v n xs) {b : Nat} (hb : w.heap.size ≤ b) : v.ownBlock ≠ some b := fun he => by have := h.lt b he; omega
theorem own_mono {w : World} {base base' : Nat} {e : TypeId} {size : Nat} {v : Value} {n : Nat} {xs : List Value} (h : w.ownsRow base e size v n xs) (hb : base' ≤ base) : w.ownsRow base' e size v n xs :=
  ⟨h.1, h.2.elim .inl fun ⟨g, cap, cur, e, hg, r⟩ => .inr ⟨g, cap, cur, e, Nat.le_trans hb hg, r⟩⟩
theorem own_set {w : World} {base : Nat} {e : TypeId} {size : Nat} {v : Value} {n : Nat} {xs : List Value} (h : w.ownsRow base e size v n xs) {b : Nat} (hb : v.ownBlock ≠ some b) (i : Nat) (u : Value) : (w.setCell ⟨b, i, none⟩ u).ownsRow base e size v n xs := ownsRow_setCell_other h (a := ⟨b, i, none⟩) hb u
theorem own_ne {w : World} {base base' : Nat} {e e' : TypeId} {size size' : Nat} {v u : Value} {n m : Nat} {xs ys : List Value} (hne : e ≠ e') (h : w.ownsRow base e size v n xs) (h' : w.ownsRow base' e' size' u m ys) : v.ownBlock = none ∨ v.ownBlock ≠ u.ownBlock := by
  rcases h.2 with ⟨rfl, _⟩ | ⟨g, cap, cur, rfl, _, hg, _⟩
  · exact .inl rfl
  · right
    rcases h'.2 with ⟨rfl, _⟩ | ⟨g', cap', cur', rfl, _, hg', _⟩
    · simp [Value.ownBlock]
    · simp only [Value.ownBlock]
      intro hh
      cases hh
      rw [hg] at hg'
      cases hg'
      exact hne rfl
theorem row_cell_n {W : World} {b : Nat} {vs : Array Value} {t : TypeId} (h : Row W b (.cells vs t)) (j : Nat) (u : Value) (hu : vs[j]? = some u) : W.cell? ((⟨b, 0, none⟩ : Addr).add j) = some u := by
  have h2 : W.heap[b]? = some (.cells vs t) := h.2
  by_cases hj : j = 0
  · subst hj; simp [World.cell?, Addr.add, h2]; simpa using hu
  · simp [World.cell?, Addr.add, hj, h2]; simpa using hu
theorem news_row {W : World} {b : Nat} {xs : List Value} {t : TypeId} (h : Row W b (.cells xs.toArray t)) : ∀ j u, xs[j]? = some u → W.cell? ((⟨b, 0, none⟩ : Addr).add j) = some u := fun j u hu => row_cell_n h j u (by simpa using hu)

theorem not_free {b : Iv} (h : ¬ b.Free) : b.Has 0 := Classical.not_not.1 fun h' => h (Iv.free_iff.2 h')
theorem op_add {j p : Nat} {a b : Iv} (da : IDig j a) (db : IDig j b) (oa : a.Ok) (ob : b.Ok) (hj : j + j + 1 ≤ 200) (w : World) (he : Env w) : Calls Tryz.prog 75 #[I a, I b] w (opIs 0 a b (TT p) w) :=
  (eadd da db oa ob hj w he).mono fun _ _ ⟨_, hv, h, hB⟩ => opIs_some (by rw [hv]; rfl) h hB
theorem op_sub {j p : Nat} {a b : Iv} (da : IDig j a) (db : IDig j b) (oa : a.Ok) (ob : b.Ok) (hj : j + j + 1 ≤ 200) (w : World) (he : Env w) : Calls Tryz.prog 76 #[I a, I b] w (opIs 1 a b (TT p) w) :=
  (esub da db oa ob hj w he).mono fun _ _ ⟨_, hv, h, hB⟩ => opIs_some (by rw [hv]; rfl) h hB
theorem op_mul {j p : Nat} {a b : Iv} (da : IDig j a) (db : IDig j b) (oa : a.Ok) (ob : b.Ok) (hj : j + j + 1 ≤ 200) (w : World) (he : Env w) : Calls Tryz.prog 49 #[I a, I b] w (opIs 2 a b (TT p) w) :=
  (emul da db oa ob (by omega) w he).mono fun _ _ ⟨_, hv, h, hB⟩ => opIs_some (by rw [hv]; rfl) h hB
theorem op_div {a0 : Addr} {j p : Nat} {a b : Iv} (da : IDig j a) (db : IDig j b) (oa : a.Ok) (ob : b.Ok) (hj : j + j + 1 ≤ 200) (w : World) (he : EnvE a0 w) : Calls Tryz.prog 51 #[I a, I b] w (opIs 3 a b (TT p) w) := by
  by_cases hf : b.Free
  · exact (ediv da db oa ob hf (by omega) w he.env).mono fun _ _ ⟨_, hv, h, hB⟩ => opIs_some (.inl ⟨hf, by rw [hv]⟩) h hB
  · exact (ediv_err da db oa ob (not_free hf) (by omega) w he).mono fun _ _ h => opIs_none (.inr ⟨hf, rfl⟩) h
theorem op_hull {j p : Nat} {a b : Iv} (da : IDig j a) (db : IDig j b) (oa : a.Ok) (ob : b.Ok) (hj : j + j + 1 ≤ 200) (w : World) (he : Env w) : Calls Tryz.prog 77 #[I a, I b] w (opIs 4 a b (TT p) w) :=
  (ehullI da db oa ob (by omega) w he).mono fun _ _ ⟨_, hv, h, hB⟩ => opIs_some (by rw [hv]; rfl) h hB
theorem op_meet {a0 : Addr} {j p : Nat} {a b : Iv} (da : IDig j a) (db : IDig j b) (oa : a.Ok) (ob : b.Ok) (hj : j + j + 1 ≤ 200) (w : World) (he : EnvE a0 w) : Calls Tryz.prog 53 #[I a, I b] w (opIs 5 a b (TT p) w) := by
  by_cases ho : (meetI a b).Ok
  · exact (emeet da db oa ob ho (by omega) w he.env).mono fun _ _ ⟨_, hv, h, hB⟩ => opIs_some (.inl ⟨ho, by rw [hv]⟩) h hB
  · exact (emeet_err da db oa ob ho (by omega) w he).mono fun _ _ h => opIs_none (.inr ⟨ho, rfl⟩) h
theorem op_sqrt {a0 : Addr} {j p : Nat} {a b : Iv} (da : IDig j a) (oa : a.Ok) (h0 : 0 < j) (hp : p ≤ 30) (hj : j + p + p + 1 ≤ 200) (w : World) (he : EnvE a0 w) : Calls Tryz.prog 52 #[I a, .int .i64 (p : Int)] w (opIs 6 a b (TT p) w) := by
  by_cases hn : a.lo < 0
  · exact (esqrt_err (a0 := a0) da oa hp (by omega) hn w he).mono fun _ _ h => opIs_none (.inr ⟨hn, rfl⟩) h
  · exact (esqrt da h0 oa hp hj (Rat.not_lt.1 hn) w he.env).mono fun _ _ ⟨v, hv, h, hB⟩ => opIs_some (.inl ⟨Rat.not_lt.1 hn, v, hv, rfl⟩) h hB
theorem op_round {j p : Nat} {a b : Iv} (da : IDig j a) (oa : a.Ok) (hp : p ≤ 30) (hj : j + p + 1 ≤ 200) (w : World) (he : Env w) : Calls Tryz.prog 16 #[I a, .int .i64 (p : Int)] w (opIs 7 a b (TT p) w) :=
  (eroundI da oa hp hj w he).mono fun _ _ ⟨_, hv, h, hB⟩ => opIs_some (by rw [hv]; rfl) h hB
end Go.Proofs.YtngohpgkceedeaaGreatDoor
