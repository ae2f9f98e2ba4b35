/-
  sane: the fixed examples that each law on intervals checks first.
-/
import Derived.Test.YtngohpgkceedeaaGreatDoorEMeet
import Derived.Test.YtngohpgkceedeaaGreatDoorESqrt
import Derived.Test.YtngohpgkceedeaaGreatDoorChains
set_option linter.unusedSimpArgs false
set_option linter.unusedVariables false
namespace Go.Proofs.YtngohpgkceedeaaGreatDoor
open Go Go.RowKit Go.Lib Go.Shelf

theorem iv_eq {a b : Iv} (h1 : a.lo = b.lo) (h2 : a.hi = b.hi) : a = b := by cases a; cases b; simp only at h1 h2; subst h1 h2; rfl
theorem root_unique {q m n : Int} (h : IsRootI q m) (k : IsRootI q n) : m = n := by
  have key : ∀ a b : Int, IsRootI q a → IsRootI q b → ¬ a < b := fun a b ha hb hlt => by
    have h1 : (a + 1) * (a + 1) ≤ b * b := Int.mul_le_mul (by omega) (by omega) (by have := ha.1; omega) hb.1
    have h2 := ha.2.2
    have h3 := hb.2.1
    omega
  have h1 := key m n h k
  have h2 := key n m k h
  omega
theorem sane_mul {a0 : Addr} (W : World) (h : EnvE a0 W) : Calls Tryz.prog 49 #[.agg #[.string (S (Rat.divInt (-2) 1).num), .string (S ((Rat.divInt (-2) 1).den : Int)), .string (S (Rat.divInt (3) 1).num), .string (S ((Rat.divInt (3) 1).den : Int))], .agg #[.string (S (Rat.divInt (-5) 1).num), .string (S ((Rat.divInt (-5) 1).den : Int)), .string (S (Rat.divInt (1) 1).num), .string (S ((Rat.divInt (1) 1).den : Int))]] W (fun e w' => e = .returned (.tuple #[.agg #[.string (S (Rat.divInt (-15) 1).num), .string (S ((Rat.divInt (-15) 1).den : Int)), .string (S (Rat.divInt (10) 1).num), .string (S ((Rat.divInt (10) 1).den : Int))], .int .i64 0]) ∧ Below W.heap.size W w') :=
  (emul (show IDig 3 ⟨Rat.divInt (-2) 1, Rat.divInt (3) 1⟩ from ⟨small_dig (n := -2) (d := 1) (by decide) (by decide) (by decide), small_dig (n := 3) (d := 1) (by decide) (by decide) (by decide)⟩) (show IDig 3 ⟨Rat.divInt (-5) 1, Rat.divInt (1) 1⟩ from ⟨small_dig (n := -5) (d := 1) (by decide) (by decide) (by decide), small_dig (n := 1) (d := 1) (by decide) (by decide) (by decide)⟩) (show Iv.Ok ⟨Rat.divInt (-2) 1, Rat.divInt (3) 1⟩ from (by decide +kernel : Rat.divInt (-2) 1 ≤ Rat.divInt (3) 1)) (show Iv.Ok ⟨Rat.divInt (-5) 1, Rat.divInt (1) 1⟩ from (by decide +kernel : Rat.divInt (-5) 1 ≤ Rat.divInt (1) 1)) (by omega) W h.env).mono fun e w' ⟨v, hv, he, hb⟩ => ⟨by
    have E : mulI ⟨Rat.divInt (-2) 1, Rat.divInt (3) 1⟩ ⟨Rat.divInt (-5) 1, Rat.divInt (1) 1⟩ = ⟨Rat.divInt (-15) 1, Rat.divInt (10) 1⟩ := iv_eq (by decide +kernel) (by decide +kernel)
    rw [he, hv, E]; rfl, hb⟩
theorem sane_div0 {a0 : Addr} (W : World) (h : EnvE a0 W) : Calls Tryz.prog 51 #[.agg #[.string (S (Rat.divInt (1) 1).num), .string (S ((Rat.divInt (1) 1).den : Int)), .string (S (Rat.divInt (2) 1).num), .string (S ((Rat.divInt (2) 1).den : Int))], .agg #[.string (S (Rat.divInt (-1) 1).num), .string (S ((Rat.divInt (-1) 1).den : Int)), .string (S (Rat.divInt (4) 1).num), .string (S ((Rat.divInt (4) 1).den : Int))]] W (fun e w' => e = .returned (.tuple #[.agg #[.string ⟨#[]⟩, .string ⟨#[]⟩, .string ⟨#[]⟩, .string ⟨#[]⟩], .int .i64 50]) ∧ Below W.heap.size W w') := ediv_err (show IDig 3 ⟨Rat.divInt (1) 1, Rat.divInt (2) 1⟩ from ⟨small_dig (n := 1) (d := 1) (by decide) (by decide) (by decide), small_dig (n := 2) (d := 1) (by decide) (by decide) (by decide)⟩) (show IDig 3 ⟨Rat.divInt (-1) 1, Rat.divInt (4) 1⟩ from ⟨small_dig (n := -1) (d := 1) (by decide) (by decide) (by decide), small_dig (n := 4) (d := 1) (by decide) (by decide) (by decide)⟩) (show Iv.Ok ⟨Rat.divInt (1) 1, Rat.divInt (2) 1⟩ from (by decide +kernel : Rat.divInt (1) 1 ≤ Rat.divInt (2) 1)) (show Iv.Ok ⟨Rat.divInt (-1) 1, Rat.divInt (4) 1⟩ from (by decide +kernel : Rat.divInt (-1) 1 ≤ Rat.divInt (4) 1)) (show Iv.Has ⟨Rat.divInt (-1) 1, Rat.divInt (4) 1⟩ 0 from ⟨(by decide +kernel : Rat.divInt (-1) 1 ≤ 0), (by decide +kernel : 0 ≤ Rat.divInt (4) 1)⟩) (by omega) W h
theorem sane_div {a0 : Addr} (W : World) (h : EnvE a0 W) : Calls Tryz.prog 51 #[.agg #[.string (S (Rat.divInt (1) 1).num), .string (S ((Rat.divInt (1) 1).den : Int)), .string (S (Rat.divInt (2) 1).num), .string (S ((Rat.divInt (2) 1).den : Int))], .agg #[.string (S (Rat.divInt (2) 1).num), .string (S ((Rat.divInt (2) 1).den : Int)), .string (S (Rat.divInt (4) 1).num), .string (S ((Rat.divInt (4) 1).den : Int))]] W (fun e w' => e = .returned (.tuple #[.agg #[.string (S (Rat.divInt (1) 4).num), .string (S ((Rat.divInt (1) 4).den : Int)), .string (S (Rat.divInt (1) 1).num), .string (S ((Rat.divInt (1) 1).den : Int))], .int .i64 0]) ∧ Below W.heap.size W w') :=
  (ediv (show IDig 3 ⟨Rat.divInt (1) 1, Rat.divInt (2) 1⟩ from ⟨small_dig (n := 1) (d := 1) (by decide) (by decide) (by decide), small_dig (n := 2) (d := 1) (by decide) (by decide) (by decide)⟩) (show IDig 3 ⟨Rat.divInt (2) 1, Rat.divInt (4) 1⟩ from ⟨small_dig (n := 2) (d := 1) (by decide) (by decide) (by decide), small_dig (n := 4) (d := 1) (by decide) (by decide) (by decide)⟩) (show Iv.Ok ⟨Rat.divInt (1) 1, Rat.divInt (2) 1⟩ from (by decide +kernel : Rat.divInt (1) 1 ≤ Rat.divInt (2) 1)) (show Iv.Ok ⟨Rat.divInt (2) 1, Rat.divInt (4) 1⟩ from (by decide +kernel : Rat.divInt (2) 1 ≤ Rat.divInt (4) 1)) (show Iv.Free ⟨Rat.divInt (2) 1, Rat.divInt (4) 1⟩ from .inl (by decide +kernel : 0 < Rat.divInt (2) 1)) (by omega) W h.env).mono fun e w' ⟨v, hv, he, hb⟩ => ⟨by
    have E : divI ⟨Rat.divInt (1) 1, Rat.divInt (2) 1⟩ ⟨Rat.divInt (2) 1, Rat.divInt (4) 1⟩ = ⟨Rat.divInt (1) 4, Rat.divInt (1) 1⟩ := iv_eq (by decide +kernel) (by decide +kernel)
    rw [he, hv, E]; rfl, hb⟩
theorem sane_meet {a0 : Addr} (W : World) (h : EnvE a0 W) : Calls Tryz.prog 53 #[.agg #[.string (S (Rat.divInt (1) 1).num), .string (S ((Rat.divInt (1) 1).den : Int)), .string (S (Rat.divInt (2) 1).num), .string (S ((Rat.divInt (2) 1).den : Int))], .agg #[.string (S (Rat.divInt (2) 1).num), .string (S ((Rat.divInt (2) 1).den : Int)), .string (S (Rat.divInt (5) 1).num), .string (S ((Rat.divInt (5) 1).den : Int))]] W (fun e w' => e = .returned (.tuple #[.agg #[.string (S (Rat.divInt (2) 1).num), .string (S ((Rat.divInt (2) 1).den : Int)), .string (S (Rat.divInt (2) 1).num), .string (S ((Rat.divInt (2) 1).den : Int))], .int .i64 0]) ∧ Below W.heap.size W w') :=
  (emeet (show IDig 3 ⟨Rat.divInt (1) 1, Rat.divInt (2) 1⟩ from ⟨small_dig (n := 1) (d := 1) (by decide) (by decide) (by decide), small_dig (n := 2) (d := 1) (by decide) (by decide) (by decide)⟩) (show IDig 3 ⟨Rat.divInt (2) 1, Rat.divInt (5) 1⟩ from ⟨small_dig (n := 2) (d := 1) (by decide) (by decide) (by decide), small_dig (n := 5) (d := 1) (by decide) (by decide) (by decide)⟩) (show Iv.Ok ⟨Rat.divInt (1) 1, Rat.divInt (2) 1⟩ from (by decide +kernel : Rat.divInt (1) 1 ≤ Rat.divInt (2) 1)) (show Iv.Ok ⟨Rat.divInt (2) 1, Rat.divInt (5) 1⟩ from (by decide +kernel : Rat.divInt (2) 1 ≤ Rat.divInt (5) 1)) (show (meetI ⟨Rat.divInt (1) 1, Rat.divInt (2) 1⟩ ⟨Rat.divInt (2) 1, Rat.divInt (5) 1⟩).Ok from (by decide +kernel : (meetI ⟨Rat.divInt (1) 1, Rat.divInt (2) 1⟩ ⟨Rat.divInt (2) 1, Rat.divInt (5) 1⟩).lo ≤ (meetI ⟨Rat.divInt (1) 1, Rat.divInt (2) 1⟩ ⟨Rat.divInt (2) 1, Rat.divInt (5) 1⟩).hi)) (by omega) W h.env).mono fun e w' ⟨v, hv, he, hb⟩ => ⟨by
    have E : meetI ⟨Rat.divInt (1) 1, Rat.divInt (2) 1⟩ ⟨Rat.divInt (2) 1, Rat.divInt (5) 1⟩ = ⟨Rat.divInt (2) 1, Rat.divInt (2) 1⟩ := iv_eq (by decide +kernel) (by decide +kernel)
    rw [he, hv, E]; rfl, hb⟩
theorem sane_meet0 {a0 : Addr} (W : World) (h : EnvE a0 W) : Calls Tryz.prog 53 #[.agg #[.string (S (Rat.divInt (1) 1).num), .string (S ((Rat.divInt (1) 1).den : Int)), .string (S (Rat.divInt (2) 1).num), .string (S ((Rat.divInt (2) 1).den : Int))], .agg #[.string (S (Rat.divInt (3) 1).num), .string (S ((Rat.divInt (3) 1).den : Int)), .string (S (Rat.divInt (5) 1).num), .string (S ((Rat.divInt (5) 1).den : Int))]] W (fun e w' => e = .returned (.tuple #[.agg #[.string ⟨#[]⟩, .string ⟨#[]⟩, .string ⟨#[]⟩, .string ⟨#[]⟩], .int .i64 50]) ∧ Below W.heap.size W w') := emeet_err (show IDig 3 ⟨Rat.divInt (1) 1, Rat.divInt (2) 1⟩ from ⟨small_dig (n := 1) (d := 1) (by decide) (by decide) (by decide), small_dig (n := 2) (d := 1) (by decide) (by decide) (by decide)⟩) (show IDig 3 ⟨Rat.divInt (3) 1, Rat.divInt (5) 1⟩ from ⟨small_dig (n := 3) (d := 1) (by decide) (by decide) (by decide), small_dig (n := 5) (d := 1) (by decide) (by decide) (by decide)⟩) (show Iv.Ok ⟨Rat.divInt (1) 1, Rat.divInt (2) 1⟩ from (by decide +kernel : Rat.divInt (1) 1 ≤ Rat.divInt (2) 1)) (show Iv.Ok ⟨Rat.divInt (3) 1, Rat.divInt (5) 1⟩ from (by decide +kernel : Rat.divInt (3) 1 ≤ Rat.divInt (5) 1)) (show ¬ (meetI ⟨Rat.divInt (1) 1, Rat.divInt (2) 1⟩ ⟨Rat.divInt (3) 1, Rat.divInt (5) 1⟩).Ok from (by decide +kernel : ¬ (meetI ⟨Rat.divInt (1) 1, Rat.divInt (2) 1⟩ ⟨Rat.divInt (3) 1, Rat.divInt (5) 1⟩).lo ≤ (meetI ⟨Rat.divInt (1) 1, Rat.divInt (2) 1⟩ ⟨Rat.divInt (3) 1, Rat.divInt (5) 1⟩).hi)) (by omega) W h
theorem sane_sqrt {a0 : Addr} (W : World) (h : EnvE a0 W) : Calls Tryz.prog 52 #[.agg #[.string (S (Rat.divInt (2) 1).num), .string (S ((Rat.divInt (2) 1).den : Int)), .string (S (Rat.divInt (3) 1).num), .string (S ((Rat.divInt (3) 1).den : Int))], .int .i64 1] W (fun e w' => e = .returned (.tuple #[.agg #[.string (S (Rat.divInt (7) 5).num), .string (S ((Rat.divInt (7) 5).den : Int)), .string (S (Rat.divInt (9) 5).num), .string (S ((Rat.divInt (9) 5).den : Int))], .int .i64 0]) ∧ Below W.heap.size W w') :=
  (esqrt (p := 1) (show IDig 3 ⟨Rat.divInt (2) 1, Rat.divInt (3) 1⟩ from ⟨small_dig (n := 2) (d := 1) (by decide) (by decide) (by decide), small_dig (n := 3) (d := 1) (by decide) (by decide) (by decide)⟩) (by omega) (show Iv.Ok ⟨Rat.divInt (2) 1, Rat.divInt (3) 1⟩ from (by decide +kernel : Rat.divInt (2) 1 ≤ Rat.divInt (3) 1)) (by omega) (by omega) (by decide +kernel : 0 ≤ Rat.divInt (2) 1) W h.env).mono fun e w' ⟨v, hv, he, hb⟩ => ⟨by
    obtain ⟨⟨m, hm, e1⟩, ⟨n, hn, e2⟩⟩ := hv
    obtain rfl : m = 14 := root_unique hm (by unfold IsRootI; decide +kernel)
    obtain rfl : n = 17 := root_unique hn (by unfold IsRootI; decide +kernel)
    have e3 : v.hi = Rat.divInt (17 + 1) (TT 1) := by
      rcases e2 with ⟨hx, _⟩ | ⟨_, hy⟩
      · exact absurd hx (by unfold ExactR; decide +kernel)
      · exact hy
    have E : v = ⟨Rat.divInt (7) 5, Rat.divInt (9) 5⟩ := iv_eq (e1.trans (by decide +kernel)) (e3.trans (by decide +kernel))
    rw [he, E]; rfl, hb⟩
theorem sane_round {a0 : Addr} (W : World) (h : EnvE a0 W) : Calls Tryz.prog 16 #[.agg #[.string (S (Rat.divInt (1) 3).num), .string (S ((Rat.divInt (1) 3).den : Int)), .string (S (Rat.divInt (2) 3).num), .string (S ((Rat.divInt (2) 3).den : Int))], .int .i64 1] W (fun e w' => e = .returned (.tuple #[.agg #[.string (S (Rat.divInt (3) 10).num), .string (S ((Rat.divInt (3) 10).den : Int)), .string (S (Rat.divInt (7) 10).num), .string (S ((Rat.divInt (7) 10).den : Int))], .int .i64 0]) ∧ Below W.heap.size W w') :=
  (eroundI (p := 1) (show IDig 3 ⟨Rat.divInt (1) 3, Rat.divInt (2) 3⟩ from ⟨small_dig (n := 1) (d := 3) (by decide) (by decide) (by decide), small_dig (n := 2) (d := 3) (by decide) (by decide) (by decide)⟩) (show Iv.Ok ⟨Rat.divInt (1) 3, Rat.divInt (2) 3⟩ from (by decide +kernel : Rat.divInt (1) 3 ≤ Rat.divInt (2) 3)) (by omega) (by omega) W h.env).mono fun e w' ⟨v, hv, he, hb⟩ => ⟨by
    have E : roundI ⟨Rat.divInt (1) 3, Rat.divInt (2) 3⟩ (TT 1) = ⟨Rat.divInt (3) 10, Rat.divInt (7) 10⟩ := iv_eq (by decide +kernel) (by decide +kernel)
    rw [he, hv, E]; rfl, hb⟩
theorem sane_width {a0 : Addr} (W : World) (h : EnvE a0 W) : Calls Tryz.prog 48 #[.agg #[.string (S (Rat.divInt (-1) 1).num), .string (S ((Rat.divInt (-1) 1).den : Int)), .string (S (Rat.divInt (4) 1).num), .string (S ((Rat.divInt (4) 1).den : Int))]] W (fun e w' => e = .returned (.tuple #[.agg #[.string (S (Rat.divInt (5) 1).num), .string (S ((Rat.divInt (5) 1).den : Int))], .int .i64 0]) ∧ Below W.heap.size W w') :=
  (ewidth (show IDig 3 ⟨Rat.divInt (-1) 1, Rat.divInt (4) 1⟩ from ⟨small_dig (n := -1) (d := 1) (by decide) (by decide) (by decide), small_dig (n := 4) (d := 1) (by decide) (by decide) (by decide)⟩) (show Iv.Ok ⟨Rat.divInt (-1) 1, Rat.divInt (4) 1⟩ from (by decide +kernel : Rat.divInt (-1) 1 ≤ Rat.divInt (4) 1)) (by omega) W h.env).mono fun e w' ⟨v, hv, he, hb⟩ => ⟨by
    have E : Rat.divInt (4) 1 - Rat.divInt (-1) 1 = Rat.divInt (5) 1 := by decide +kernel
    rw [he, hv, E]; rfl, hb⟩
theorem sane_valid (w : World) (he : Env w) : Calls Tryz.prog 54 #[.agg #[.string (S (Rat.divInt (-15) 1).num), .string (S ((Rat.divInt (-15) 1).den : Int)), .string (S (Rat.divInt (10) 1).num), .string (S ((Rat.divInt (10) 1).den : Int))]] w (BoolOk true w) := by
  have h := evalid ⟨Rat.divInt (-15) 1, Rat.divInt (10) 1⟩ ((show IDig 3 ⟨Rat.divInt (-15) 1, Rat.divInt (10) 1⟩ from ⟨small_dig (n := -15) (d := 1) (by decide) (by decide) (by decide), small_dig (n := 10) (d := 1) (by decide) (by decide) (by decide)⟩).mono (by omega)) w he
  rwa [decide_eq_true (by decide +kernel : Rat.divInt (-15) 1 ≤ Rat.divInt (10) 1)] at h
theorem sane_valid0 (w : World) (he : Env w) : Calls Tryz.prog 54 #[.agg #[.string (S (Rat.divInt (2) 1).num), .string (S ((Rat.divInt (2) 1).den : Int)), .string (S (Rat.divInt (1) 1).num), .string (S ((Rat.divInt (1) 1).den : Int))]] w (BoolOk false w) := by
  have h := evalid ⟨Rat.divInt (2) 1, Rat.divInt (1) 1⟩ ((show IDig 3 ⟨Rat.divInt (2) 1, Rat.divInt (1) 1⟩ from ⟨small_dig (n := 2) (d := 1) (by decide) (by decide) (by decide), small_dig (n := 1) (d := 1) (by decide) (by decide) (by decide)⟩).mono (by omega)) w he
  rwa [decide_eq_false (by decide +kernel : ¬ Rat.divInt (2) 1 ≤ Rat.divInt (1) 1)] at h
theorem sane_contains (w : World) (he : Env w) : Calls Tryz.prog 23 #[.agg #[.string (S (Rat.divInt (-15) 1).num), .string (S ((Rat.divInt (-15) 1).den : Int)), .string (S (Rat.divInt (10) 1).num), .string (S ((Rat.divInt (10) 1).den : Int))], .agg #[.string (S (Rat.divInt (0) 1).num), .string (S ((Rat.divInt (0) 1).den : Int))]] w (BoolOk true w) := by
  have h := econtains ⟨Rat.divInt (-15) 1, Rat.divInt (10) 1⟩ (Rat.divInt (0) 1) ((show IDig 3 ⟨Rat.divInt (-15) 1, Rat.divInt (10) 1⟩ from ⟨small_dig (n := -15) (d := 1) (by decide) (by decide) (by decide), small_dig (n := 10) (d := 1) (by decide) (by decide) (by decide)⟩).mono (by omega)) ((small_dig (n := 0) (d := 1) (by decide) (by decide) (by decide)) |>.mono (by omega)) w he
  have q : decide (Rat.divInt (-15) 1 ≤ Rat.divInt (0) 1 ∧ Rat.divInt (0) 1 ≤ Rat.divInt (10) 1) = true := decide_eq_true ⟨by decide +kernel, by decide +kernel⟩
  rwa [q] at h
set_option maxRecDepth 100000 in
set_option maxHeartbeats 4000000 in
theorem sane_within (w : World) (he : Env w) : Calls Tryz.prog 17 #[.agg #[.string (S (Rat.divInt (1) 4).num), .string (S ((Rat.divInt (1) 4).den : Int)), .string (S (Rat.divInt (1) 1).num), .string (S ((Rat.divInt (1) 1).den : Int))], .agg #[.string (S (Rat.divInt (7) 5).num), .string (S ((Rat.divInt (7) 5).den : Int)), .string (S (Rat.divInt (9) 5).num), .string (S ((Rat.divInt (9) 5).den : Int))]] w (BoolOk false w) := by
  have hB : Below w.heap.size w w := Below.refl _ _
  have h1 := fun W (h : Env W) => evalid ⟨Rat.divInt (1) 4, Rat.divInt (1) 1⟩ ((show IDig 3 ⟨Rat.divInt (1) 4, Rat.divInt (1) 1⟩ from ⟨small_dig (n := 1) (d := 4) (by decide) (by decide) (by decide), small_dig (n := 1) (d := 1) (by decide) (by decide) (by decide)⟩).mono (show 3 ≤ 200 by omega)) W h
  have p1 : decide (Rat.divInt (1) 4 ≤ Rat.divInt (1) 1) = true := decide_eq_true (by decide +kernel)
  have h2 := fun W (h : Env W) => econtains ⟨Rat.divInt (7) 5, Rat.divInt (9) 5⟩ (Rat.divInt (1) 4) ((show IDig 3 ⟨Rat.divInt (7) 5, Rat.divInt (9) 5⟩ from ⟨small_dig (n := 7) (d := 5) (by decide) (by decide) (by decide), small_dig (n := 9) (d := 5) (by decide) (by decide) (by decide)⟩).mono (show 3 ≤ 200 by omega)) ((small_dig (n := 1) (d := 4) (by decide) (by decide) (by decide)).mono (show 3 ≤ 200 by omega)) W h
  have p2 : decide (Rat.divInt (7) 5 ≤ Rat.divInt (1) 4 ∧ Rat.divInt (1) 4 ≤ Rat.divInt (9) 5) = false := decide_eq_false (fun h => absurd h.1 (by decide +kernel))
  simp only at h1 h2
  rw [p1] at h1
  rw [p2] at h2
  clear p1 p2
  unfold I at h1 h2
  unfold Q at h2
  simp only at h1 h2
  generalize Rat.divInt (1) 4 = x0 at *
  generalize Rat.divInt (1) 1 = x1 at *
  generalize Rat.divInt (7) 5 = x2 at *
  generalize Rat.divInt (9) 5 = x3 at *
  go_enter Tryz.func17, Tryz.ntmps17
  go_wp2_with fail
  have sB := hB.size
  refine world_cut (fun X => Below w.heap.size w X ∧ Row X w.heap.size (.cells #[.string (S x0.num), .string (S (x0.den : Int)), .string (S x1.num), .string (S (x1.den : Int))] 29) ∧ Row X (w.heap.size + 1) (.cells #[.string (S x2.num), .string (S (x2.den : Int)), .string (S x3.num), .string (S (x3.den : Int))] 29)) ⟨C1_hB, C2, C2⟩ ?_
  clear hB sB
  rintro V1 ⟨hB, ra, rb⟩
  obtain ⟨sa, ca0, ca1, ca2, ca3, fa0, fa1, fa2, fa3⟩ := Row.cells4 ra
  obtain ⟨sb, cb0, cb1, cb2, cb3, fb0, fb1, fb2, fb3⟩ := Row.cells4 rb
  refine (h1 _ (he.below hB)).mono ?_
  rintro e W2 ⟨rfl, h1⟩
  clear sa ca0 ca1 ca2 ca3 fa0 fa1 fa2 fa3
  clear sb cb0 cb1 cb2 cb3 fb0 fb1 fb2 fb3
  replace hB := hB.trans (h1.mono hB.size)
  replace ra := Row.below ra h1
  replace rb := Row.below rb h1
  clear h1
  obtain ⟨sa, ca0, ca1, ca2, ca3, fa0, fa1, fa2, fa3⟩ := Row.cells4 ra
  obtain ⟨sb, cb0, cb1, cb2, cb3, fb0, fb1, fb2, fb3⟩ := Row.cells4 rb
  go_wp2_with fail
  refine (h2 _ (he.below hB)).mono ?_
  rintro e W3 ⟨rfl, h1⟩
  clear sa ca0 ca1 ca2 ca3 fa0 fa1 fa2 fa3
  clear sb cb0 cb1 cb2 cb3 fb0 fb1 fb2 fb3
  replace hB := hB.trans (h1.mono hB.size)
  replace ra := Row.below ra h1
  replace rb := Row.below rb h1
  clear h1
  obtain ⟨sa, ca0, ca1, ca2, ca3, fa0, fa1, fa2, fa3⟩ := Row.cells4 ra
  obtain ⟨sb, cb0, cb1, cb2, cb3, fb0, fb1, fb2, fb3⟩ := Row.cells4 rb
  go_wp2
  go_ret
  exact ⟨rfl, hB⟩
theorem sane_point (w : World) (he : Env w) : Calls Tryz.prog 55 #[.agg #[.string (S (Rat.divInt (3) 1).num), .string (S ((Rat.divInt (3) 1).den : Int))]] w fun e w' => e = .returned (.agg #[.string (S (Rat.divInt (3) 1).num), .string (S ((Rat.divInt (3) 1).den : Int)), .string (S (Rat.divInt (3) 1).num), .string (S ((Rat.divInt (3) 1).den : Int))]) ∧ Below w.heap.size w w' := epoint (Rat.divInt (3) 1) ((small_dig (n := 3) (d := 1) (by decide) (by decide) (by decide)).mono (by omega)) w he
set_option maxRecDepth 100000 in
set_option maxHeartbeats 16000000 in
theorem sane5 {a0 : Addr} (w : World) (he : EnvE a0 w) : Calls Tryz.prog 12 #[] w (BoolOk true w) := by
  have SP_m2_3 := (fun W => lspan (n := -2) (d := 3) ⟨by omega, by omega⟩ ⟨by omega, by omega⟩ W)
  have SP_m5_1 := (fun W => lspan (n := -5) (d := 1) ⟨by omega, by omega⟩ ⟨by omega, by omega⟩ W)
  have SP_1_2 := (fun W => lspan (n := 1) (d := 2) ⟨by omega, by omega⟩ ⟨by omega, by omega⟩ W)
  have SP_m1_4 := (fun W => lspan (n := -1) (d := 4) ⟨by omega, by omega⟩ ⟨by omega, by omega⟩ W)
  have SP_2_4 := (fun W => lspan (n := 2) (d := 4) ⟨by omega, by omega⟩ ⟨by omega, by omega⟩ W)
  have SP_2_3 := (fun W => lspan (n := 2) (d := 3) ⟨by omega, by omega⟩ ⟨by omega, by omega⟩ W)
  have SP_2_5 := (fun W => lspan (n := 2) (d := 5) ⟨by omega, by omega⟩ ⟨by omega, by omega⟩ W)
  have SP_3_5 := (fun W => lspan (n := 3) (d := 5) ⟨by omega, by omega⟩ ⟨by omega, by omega⟩ W)
  have SP_m15_10 := (fun W => lspan (n := -15) (d := 10) ⟨by omega, by omega⟩ ⟨by omega, by omega⟩ W)
  have SP_2_2 := (fun W => lspan (n := 2) (d := 2) ⟨by omega, by omega⟩ ⟨by omega, by omega⟩ W)
  have SP_2_1 := (fun W => lspan (n := 2) (d := 1) ⟨by omega, by omega⟩ ⟨by omega, by omega⟩ W)
  have SP_3_3 := (fun W => lspan (n := 3) (d := 3) ⟨by omega, by omega⟩ ⟨by omega, by omega⟩ W)
  have RA_1_3 := (fun W => lratio (n := 1) (d := 3) ⟨by omega, by omega⟩ ⟨by omega, by omega⟩ (by omega) W)
  have RA_2_3 := (fun W => lratio (n := 2) (d := 3) ⟨by omega, by omega⟩ ⟨by omega, by omega⟩ (by omega) W)
  have RA_1_4 := (fun W => lratio (n := 1) (d := 4) ⟨by omega, by omega⟩ ⟨by omega, by omega⟩ (by omega) W)
  have RA_1_1 := (fun W => lratio (n := 1) (d := 1) ⟨by omega, by omega⟩ ⟨by omega, by omega⟩ (by omega) W)
  have RA_7_5 := (fun W => lratio (n := 7) (d := 5) ⟨by omega, by omega⟩ ⟨by omega, by omega⟩ (by omega) W)
  have RA_9_5 := (fun W => lratio (n := 9) (d := 5) ⟨by omega, by omega⟩ ⟨by omega, by omega⟩ (by omega) W)
  have RA_3_10 := (fun W => lratio (n := 3) (d := 10) ⟨by omega, by omega⟩ ⟨by omega, by omega⟩ (by omega) W)
  have RA_7_10 := (fun W => lratio (n := 7) (d := 10) ⟨by omega, by omega⟩ ⟨by omega, by omega⟩ (by omega) W)
  have RA_5_1 := (fun W => lratio (n := 5) (d := 1) ⟨by omega, by omega⟩ ⟨by omega, by omega⟩ (by omega) W)
  have RA_0_1 := (fun W => lratio (n := 0) (d := 1) ⟨by omega, by omega⟩ ⟨by omega, by omega⟩ (by omega) W)
  have RA_3_1 := (fun W => lratio (n := 3) (d := 1) ⟨by omega, by omega⟩ ⟨by omega, by omega⟩ (by omega) W)
  have M_mul := fun W (h : EnvE a0 W) => sane_mul W h
  have M_div0 := fun W (h : EnvE a0 W) => sane_div0 W h
  have M_div := fun W (h : EnvE a0 W) => sane_div W h
  have M_sqrt := fun W (h : EnvE a0 W) => sane_sqrt W h
  have M_meet := fun W (h : EnvE a0 W) => sane_meet W h
  have M_meet0 := fun W (h : EnvE a0 W) => sane_meet0 W h
  have M_round := fun W (h : EnvE a0 W) => sane_round W h
  have M_width := fun W (h : EnvE a0 W) => sane_width W h
  have V_valid := fun W (h : Env W) => sane_valid W h
  have V_valid0 := fun W (h : Env W) => sane_valid0 W h
  have V_contains := fun W (h : Env W) => sane_contains W h
  have V_within := fun W (h : Env W) => sane_within W h
  have V_point := fun W (h : Env W) => sane_point W h
  unfold I at SP_m2_3 SP_m5_1 SP_1_2 SP_m1_4 SP_2_4 SP_2_3 SP_2_5 SP_3_5 SP_m15_10 SP_2_2 SP_2_1 SP_3_3
  simp only at SP_m2_3 SP_m5_1 SP_1_2 SP_m1_4 SP_2_4 SP_2_3 SP_2_5 SP_3_5 SP_m15_10 SP_2_2 SP_2_1 SP_3_3
  unfold QIs Q at RA_1_3 RA_2_3 RA_1_4 RA_1_1 RA_7_5 RA_9_5 RA_3_10 RA_7_10 RA_5_1 RA_0_1 RA_3_1
  unfold BoolOk at V_valid V_valid0 V_contains V_within
  generalize S (Rat.divInt (-2) 1).num = n0 at *
  generalize S ((Rat.divInt (-2) 1).den : Int) = d0 at *
  generalize S (Rat.divInt (3) 1).num = n1 at *
  generalize S ((Rat.divInt (3) 1).den : Int) = d1 at *
  generalize S (Rat.divInt (-5) 1).num = n2 at *
  generalize S ((Rat.divInt (-5) 1).den : Int) = d2 at *
  generalize S (Rat.divInt (1) 1).num = n3 at *
  generalize S ((Rat.divInt (1) 1).den : Int) = d3 at *
  generalize S (Rat.divInt (-15) 1).num = n4 at *
  generalize S ((Rat.divInt (-15) 1).den : Int) = d4 at *
  generalize S (Rat.divInt (10) 1).num = n5 at *
  generalize S ((Rat.divInt (10) 1).den : Int) = d5 at *
  generalize S (Rat.divInt (2) 1).num = n6 at *
  generalize S ((Rat.divInt (2) 1).den : Int) = d6 at *
  generalize S (Rat.divInt (-1) 1).num = n7 at *
  generalize S ((Rat.divInt (-1) 1).den : Int) = d7 at *
  generalize S (Rat.divInt (4) 1).num = n8 at *
  generalize S ((Rat.divInt (4) 1).den : Int) = d8 at *
  generalize S (Rat.divInt (1) 4).num = n9 at *
  generalize S ((Rat.divInt (1) 4).den : Int) = d9 at *
  generalize S (Rat.divInt (5) 1).num = n10 at *
  generalize S ((Rat.divInt (5) 1).den : Int) = d10 at *
  generalize S (Rat.divInt (7) 5).num = n11 at *
  generalize S ((Rat.divInt (7) 5).den : Int) = d11 at *
  generalize S (Rat.divInt (9) 5).num = n12 at *
  generalize S ((Rat.divInt (9) 5).den : Int) = d12 at *
  generalize S (Rat.divInt (1) 3).num = n13 at *
  generalize S ((Rat.divInt (1) 3).den : Int) = d13 at *
  generalize S (Rat.divInt (2) 3).num = n14 at *
  generalize S ((Rat.divInt (2) 3).den : Int) = d14 at *
  generalize S (Rat.divInt (3) 10).num = n15 at *
  generalize S ((Rat.divInt (3) 10).den : Int) = d15 at *
  generalize S (Rat.divInt (7) 10).num = n16 at *
  generalize S ((Rat.divInt (7) 10).den : Int) = d16 at *
  generalize S (Rat.divInt (0) 1).num = n17 at *
  generalize S ((Rat.divInt (0) 1).den : Int) = d17 at *
  have hB : Below w.heap.size w w := Below.refl _ _
  go_enter Tryz.func12, Tryz.ntmps12
  go_wp2_with fail
  refine (SP_m2_3 _).mono ?_
  rintro e W1 ⟨rfl, h1⟩
  replace hB := hB.trans (h1.mono hB.size)
  clear h1
  go_wp2_with fail
  refine (SP_m5_1 _).mono ?_
  rintro e W2 ⟨rfl, h1⟩
  replace hB := hB.trans (h1.mono hB.size)
  clear h1
  go_wp2_with fail
  refine (M_mul _ (he.below hB)).mono ?_
  rintro e W3 ⟨rfl, h1⟩
  replace hB := hB.trans (h1.mono hB.size)
  clear h1
  go_wp2_with fail
  have sB := hB.size
  refine world_cut (fun X => Below w.heap.size w X ∧ Row X W3.heap.size (.cells #[.string n4, .string d4, .string n5, .string d5] 29)) ⟨C1_hB, C2⟩ ?_
  clear hB sB
  rintro V4 ⟨hB, rA⟩
  obtain ⟨sA, cA0, cA1, cA2, cA3, fA0, fA1, fA2, fA3⟩ := Row.cells4 rA
  refine (SP_1_2 _).mono ?_
  rintro e W5 ⟨rfl, h1⟩
  clear sA cA0 cA1 cA2 cA3 fA0 fA1 fA2 fA3
  replace hB := hB.trans (h1.mono hB.size)
  replace rA := Row.below rA h1
  clear h1
  obtain ⟨sA, cA0, cA1, cA2, cA3, fA0, fA1, fA2, fA3⟩ := Row.cells4 rA
  go_wp2_with fail
  refine (SP_m1_4 _).mono ?_
  rintro e W6 ⟨rfl, h1⟩
  clear sA cA0 cA1 cA2 cA3 fA0 fA1 fA2 fA3
  replace hB := hB.trans (h1.mono hB.size)
  replace rA := Row.below rA h1
  clear h1
  obtain ⟨sA, cA0, cA1, cA2, cA3, fA0, fA1, fA2, fA3⟩ := Row.cells4 rA
  go_wp2_with fail
  refine (M_div0 _ (he.below hB)).mono ?_
  rintro e W7 ⟨rfl, h1⟩
  clear sA cA0 cA1 cA2 cA3 fA0 fA1 fA2 fA3
  replace hB := hB.trans (h1.mono hB.size)
  replace rA := Row.below rA h1
  clear h1
  obtain ⟨sA, cA0, cA1, cA2, cA3, fA0, fA1, fA2, fA3⟩ := Row.cells4 rA
  go_wp2_with fail
  have sB := hB.size
  refine world_cut (fun X => Below w.heap.size w X ∧ Row X W3.heap.size (.cells #[.string n4, .string d4, .string n5, .string d5] 29) ∧ Row X W7.heap.size (.cells #[.string ⟨#[]⟩, .string ⟨#[]⟩, .string ⟨#[]⟩, .string ⟨#[]⟩] 29)) ⟨C1_hB, C3_rA, C2⟩ ?_
  clear rA
  clear sA cA0 cA1 cA2 cA3 fA0 fA1 fA2 fA3
  clear hB sB
  rintro V8 ⟨hB, rA, rE⟩
  obtain ⟨sA, cA0, cA1, cA2, cA3, fA0, fA1, fA2, fA3⟩ := Row.cells4 rA
  obtain ⟨sE, cE0, cE1, cE2, cE3, fE0, fE1, fE2, fE3⟩ := Row.cells4 rE
  refine (SP_1_2 _).mono ?_
  rintro e W9 ⟨rfl, h1⟩
  clear sA cA0 cA1 cA2 cA3 fA0 fA1 fA2 fA3
  clear sE cE0 cE1 cE2 cE3 fE0 fE1 fE2 fE3
  replace hB := hB.trans (h1.mono hB.size)
  replace rA := Row.below rA h1
  replace rE := Row.below rE h1
  clear h1
  obtain ⟨sA, cA0, cA1, cA2, cA3, fA0, fA1, fA2, fA3⟩ := Row.cells4 rA
  obtain ⟨sE, cE0, cE1, cE2, cE3, fE0, fE1, fE2, fE3⟩ := Row.cells4 rE
  go_wp2_with fail
  refine (SP_2_4 _).mono ?_
  rintro e W10 ⟨rfl, h1⟩
  clear sA cA0 cA1 cA2 cA3 fA0 fA1 fA2 fA3
  clear sE cE0 cE1 cE2 cE3 fE0 fE1 fE2 fE3
  replace hB := hB.trans (h1.mono hB.size)
  replace rA := Row.below rA h1
  replace rE := Row.below rE h1
  clear h1
  obtain ⟨sA, cA0, cA1, cA2, cA3, fA0, fA1, fA2, fA3⟩ := Row.cells4 rA
  obtain ⟨sE, cE0, cE1, cE2, cE3, fE0, fE1, fE2, fE3⟩ := Row.cells4 rE
  go_wp2_with fail
  refine (M_div _ (he.below hB)).mono ?_
  rintro e W11 ⟨rfl, h1⟩
  clear sA cA0 cA1 cA2 cA3 fA0 fA1 fA2 fA3
  clear sE cE0 cE1 cE2 cE3 fE0 fE1 fE2 fE3
  replace hB := hB.trans (h1.mono hB.size)
  replace rA := Row.below rA h1
  replace rE := Row.below rE h1
  clear h1
  obtain ⟨sA, cA0, cA1, cA2, cA3, fA0, fA1, fA2, fA3⟩ := Row.cells4 rA
  obtain ⟨sE, cE0, cE1, cE2, cE3, fE0, fE1, fE2, fE3⟩ := Row.cells4 rE
  go_wp2_with fail
  have sB := hB.size
  refine world_cut (fun X => Below w.heap.size w X ∧ Row X W3.heap.size (.cells #[.string n4, .string d4, .string n5, .string d5] 29) ∧ Row X W7.heap.size (.cells #[.string ⟨#[]⟩, .string ⟨#[]⟩, .string ⟨#[]⟩, .string ⟨#[]⟩] 29) ∧ Row X W11.heap.size (.cells #[.string n9, .string d9, .string n3, .string d3] 29)) ⟨C1_hB, C3_rA, C3_rE, C2⟩ ?_
  clear rA
  clear sA cA0 cA1 cA2 cA3 fA0 fA1 fA2 fA3
  clear rE
  clear sE cE0 cE1 cE2 cE3 fE0 fE1 fE2 fE3
  clear hB sB
  rintro V12 ⟨hB, rA, rE, rB⟩
  obtain ⟨sA, cA0, cA1, cA2, cA3, fA0, fA1, fA2, fA3⟩ := Row.cells4 rA
  obtain ⟨sE, cE0, cE1, cE2, cE3, fE0, fE1, fE2, fE3⟩ := Row.cells4 rE
  obtain ⟨sB, cB0, cB1, cB2, cB3, fB0, fB1, fB2, fB3⟩ := Row.cells4 rB
  refine (SP_2_3 _).mono ?_
  rintro e W13 ⟨rfl, h1⟩
  clear sA cA0 cA1 cA2 cA3 fA0 fA1 fA2 fA3
  clear sE cE0 cE1 cE2 cE3 fE0 fE1 fE2 fE3
  clear sB cB0 cB1 cB2 cB3 fB0 fB1 fB2 fB3
  replace hB := hB.trans (h1.mono hB.size)
  replace rA := Row.below rA h1
  replace rE := Row.below rE h1
  replace rB := Row.below rB h1
  clear h1
  obtain ⟨sA, cA0, cA1, cA2, cA3, fA0, fA1, fA2, fA3⟩ := Row.cells4 rA
  obtain ⟨sE, cE0, cE1, cE2, cE3, fE0, fE1, fE2, fE3⟩ := Row.cells4 rE
  obtain ⟨sB, cB0, cB1, cB2, cB3, fB0, fB1, fB2, fB3⟩ := Row.cells4 rB
  go_wp2_with fail
  refine (M_sqrt _ (he.below hB)).mono ?_
  rintro e W14 ⟨rfl, h1⟩
  clear sA cA0 cA1 cA2 cA3 fA0 fA1 fA2 fA3
  clear sE cE0 cE1 cE2 cE3 fE0 fE1 fE2 fE3
  clear sB cB0 cB1 cB2 cB3 fB0 fB1 fB2 fB3
  replace hB := hB.trans (h1.mono hB.size)
  replace rA := Row.below rA h1
  replace rE := Row.below rE h1
  replace rB := Row.below rB h1
  clear h1
  obtain ⟨sA, cA0, cA1, cA2, cA3, fA0, fA1, fA2, fA3⟩ := Row.cells4 rA
  obtain ⟨sE, cE0, cE1, cE2, cE3, fE0, fE1, fE2, fE3⟩ := Row.cells4 rE
  obtain ⟨sB, cB0, cB1, cB2, cB3, fB0, fB1, fB2, fB3⟩ := Row.cells4 rB
  go_wp2_with fail
  have sB := hB.size
  refine world_cut (fun X => Below w.heap.size w X ∧ Row X W3.heap.size (.cells #[.string n4, .string d4, .string n5, .string d5] 29) ∧ Row X W7.heap.size (.cells #[.string ⟨#[]⟩, .string ⟨#[]⟩, .string ⟨#[]⟩, .string ⟨#[]⟩] 29) ∧ Row X W11.heap.size (.cells #[.string n9, .string d9, .string n3, .string d3] 29) ∧ Row X W14.heap.size (.cells #[.string n11, .string d11, .string n12, .string d12] 29)) ⟨C1_hB, C3_rA, C3_rE, C3_rB, C2⟩ ?_
  clear rA
  clear sA cA0 cA1 cA2 cA3 fA0 fA1 fA2 fA3
  clear rE
  clear sE cE0 cE1 cE2 cE3 fE0 fE1 fE2 fE3
  clear rB
  clear sB cB0 cB1 cB2 cB3 fB0 fB1 fB2 fB3
  clear hB sB
  rintro V15 ⟨hB, rA, rE, rB, rC⟩
  obtain ⟨sA, cA0, cA1, cA2, cA3, fA0, fA1, fA2, fA3⟩ := Row.cells4 rA
  obtain ⟨sE, cE0, cE1, cE2, cE3, fE0, fE1, fE2, fE3⟩ := Row.cells4 rE
  obtain ⟨sB, cB0, cB1, cB2, cB3, fB0, fB1, fB2, fB3⟩ := Row.cells4 rB
  obtain ⟨sC, cC0, cC1, cC2, cC3, fC0, fC1, fC2, fC3⟩ := Row.cells4 rC
  refine (SP_1_2 _).mono ?_
  rintro e W16 ⟨rfl, h1⟩
  clear sA cA0 cA1 cA2 cA3 fA0 fA1 fA2 fA3
  clear sE cE0 cE1 cE2 cE3 fE0 fE1 fE2 fE3
  clear sB cB0 cB1 cB2 cB3 fB0 fB1 fB2 fB3
  clear sC cC0 cC1 cC2 cC3 fC0 fC1 fC2 fC3
  replace hB := hB.trans (h1.mono hB.size)
  replace rA := Row.below rA h1
  replace rE := Row.below rE h1
  replace rB := Row.below rB h1
  replace rC := Row.below rC h1
  clear h1
  obtain ⟨sA, cA0, cA1, cA2, cA3, fA0, fA1, fA2, fA3⟩ := Row.cells4 rA
  obtain ⟨sE, cE0, cE1, cE2, cE3, fE0, fE1, fE2, fE3⟩ := Row.cells4 rE
  obtain ⟨sB, cB0, cB1, cB2, cB3, fB0, fB1, fB2, fB3⟩ := Row.cells4 rB
  obtain ⟨sC, cC0, cC1, cC2, cC3, fC0, fC1, fC2, fC3⟩ := Row.cells4 rC
  go_wp2_with fail
  refine (SP_2_5 _).mono ?_
  rintro e W17 ⟨rfl, h1⟩
  clear sA cA0 cA1 cA2 cA3 fA0 fA1 fA2 fA3
  clear sE cE0 cE1 cE2 cE3 fE0 fE1 fE2 fE3
  clear sB cB0 cB1 cB2 cB3 fB0 fB1 fB2 fB3
  clear sC cC0 cC1 cC2 cC3 fC0 fC1 fC2 fC3
  replace hB := hB.trans (h1.mono hB.size)
  replace rA := Row.below rA h1
  replace rE := Row.below rE h1
  replace rB := Row.below rB h1
  replace rC := Row.below rC h1
  clear h1
  obtain ⟨sA, cA0, cA1, cA2, cA3, fA0, fA1, fA2, fA3⟩ := Row.cells4 rA
  obtain ⟨sE, cE0, cE1, cE2, cE3, fE0, fE1, fE2, fE3⟩ := Row.cells4 rE
  obtain ⟨sB, cB0, cB1, cB2, cB3, fB0, fB1, fB2, fB3⟩ := Row.cells4 rB
  obtain ⟨sC, cC0, cC1, cC2, cC3, fC0, fC1, fC2, fC3⟩ := Row.cells4 rC
  go_wp2_with fail
  refine (M_meet _ (he.below hB)).mono ?_
  rintro e W18 ⟨rfl, h1⟩
  clear sA cA0 cA1 cA2 cA3 fA0 fA1 fA2 fA3
  clear sE cE0 cE1 cE2 cE3 fE0 fE1 fE2 fE3
  clear sB cB0 cB1 cB2 cB3 fB0 fB1 fB2 fB3
  clear sC cC0 cC1 cC2 cC3 fC0 fC1 fC2 fC3
  replace hB := hB.trans (h1.mono hB.size)
  replace rA := Row.below rA h1
  replace rE := Row.below rE h1
  replace rB := Row.below rB h1
  replace rC := Row.below rC h1
  clear h1
  obtain ⟨sA, cA0, cA1, cA2, cA3, fA0, fA1, fA2, fA3⟩ := Row.cells4 rA
  obtain ⟨sE, cE0, cE1, cE2, cE3, fE0, fE1, fE2, fE3⟩ := Row.cells4 rE
  obtain ⟨sB, cB0, cB1, cB2, cB3, fB0, fB1, fB2, fB3⟩ := Row.cells4 rB
  obtain ⟨sC, cC0, cC1, cC2, cC3, fC0, fC1, fC2, fC3⟩ := Row.cells4 rC
  go_wp2_with fail
  have sB := hB.size
  refine world_cut (fun X => Below w.heap.size w X ∧ Row X W3.heap.size (.cells #[.string n4, .string d4, .string n5, .string d5] 29) ∧ Row X W7.heap.size (.cells #[.string ⟨#[]⟩, .string ⟨#[]⟩, .string ⟨#[]⟩, .string ⟨#[]⟩] 29) ∧ Row X W11.heap.size (.cells #[.string n9, .string d9, .string n3, .string d3] 29) ∧ Row X W14.heap.size (.cells #[.string n11, .string d11, .string n12, .string d12] 29) ∧ Row X W18.heap.size (.cells #[.string n6, .string d6, .string n6, .string d6] 29)) ⟨C1_hB, C3_rA, C3_rE, C3_rB, C3_rC, C2⟩ ?_
  clear rA
  clear sA cA0 cA1 cA2 cA3 fA0 fA1 fA2 fA3
  clear rE
  clear sE cE0 cE1 cE2 cE3 fE0 fE1 fE2 fE3
  clear rB
  clear sB cB0 cB1 cB2 cB3 fB0 fB1 fB2 fB3
  clear rC
  clear sC cC0 cC1 cC2 cC3 fC0 fC1 fC2 fC3
  clear hB sB
  rintro V19 ⟨hB, rA, rE, rB, rC, rD⟩
  obtain ⟨sA, cA0, cA1, cA2, cA3, fA0, fA1, fA2, fA3⟩ := Row.cells4 rA
  obtain ⟨sE, cE0, cE1, cE2, cE3, fE0, fE1, fE2, fE3⟩ := Row.cells4 rE
  obtain ⟨sB, cB0, cB1, cB2, cB3, fB0, fB1, fB2, fB3⟩ := Row.cells4 rB
  obtain ⟨sC, cC0, cC1, cC2, cC3, fC0, fC1, fC2, fC3⟩ := Row.cells4 rC
  obtain ⟨sD, cD0, cD1, cD2, cD3, fD0, fD1, fD2, fD3⟩ := Row.cells4 rD
  refine (SP_1_2 _).mono ?_
  rintro e W20 ⟨rfl, h1⟩
  clear sA cA0 cA1 cA2 cA3 fA0 fA1 fA2 fA3
  clear sE cE0 cE1 cE2 cE3 fE0 fE1 fE2 fE3
  clear sB cB0 cB1 cB2 cB3 fB0 fB1 fB2 fB3
  clear sC cC0 cC1 cC2 cC3 fC0 fC1 fC2 fC3
  clear sD cD0 cD1 cD2 cD3 fD0 fD1 fD2 fD3
  replace hB := hB.trans (h1.mono hB.size)
  replace rA := Row.below rA h1
  replace rE := Row.below rE h1
  replace rB := Row.below rB h1
  replace rC := Row.below rC h1
  replace rD := Row.below rD h1
  clear h1
  obtain ⟨sA, cA0, cA1, cA2, cA3, fA0, fA1, fA2, fA3⟩ := Row.cells4 rA
  obtain ⟨sE, cE0, cE1, cE2, cE3, fE0, fE1, fE2, fE3⟩ := Row.cells4 rE
  obtain ⟨sB, cB0, cB1, cB2, cB3, fB0, fB1, fB2, fB3⟩ := Row.cells4 rB
  obtain ⟨sC, cC0, cC1, cC2, cC3, fC0, fC1, fC2, fC3⟩ := Row.cells4 rC
  obtain ⟨sD, cD0, cD1, cD2, cD3, fD0, fD1, fD2, fD3⟩ := Row.cells4 rD
  go_wp2_with fail
  refine (SP_3_5 _).mono ?_
  rintro e W21 ⟨rfl, h1⟩
  clear sA cA0 cA1 cA2 cA3 fA0 fA1 fA2 fA3
  clear sE cE0 cE1 cE2 cE3 fE0 fE1 fE2 fE3
  clear sB cB0 cB1 cB2 cB3 fB0 fB1 fB2 fB3
  clear sC cC0 cC1 cC2 cC3 fC0 fC1 fC2 fC3
  clear sD cD0 cD1 cD2 cD3 fD0 fD1 fD2 fD3
  replace hB := hB.trans (h1.mono hB.size)
  replace rA := Row.below rA h1
  replace rE := Row.below rE h1
  replace rB := Row.below rB h1
  replace rC := Row.below rC h1
  replace rD := Row.below rD h1
  clear h1
  obtain ⟨sA, cA0, cA1, cA2, cA3, fA0, fA1, fA2, fA3⟩ := Row.cells4 rA
  obtain ⟨sE, cE0, cE1, cE2, cE3, fE0, fE1, fE2, fE3⟩ := Row.cells4 rE
  obtain ⟨sB, cB0, cB1, cB2, cB3, fB0, fB1, fB2, fB3⟩ := Row.cells4 rB
  obtain ⟨sC, cC0, cC1, cC2, cC3, fC0, fC1, fC2, fC3⟩ := Row.cells4 rC
  obtain ⟨sD, cD0, cD1, cD2, cD3, fD0, fD1, fD2, fD3⟩ := Row.cells4 rD
  go_wp2_with fail
  refine (M_meet0 _ (he.below hB)).mono ?_
  rintro e W22 ⟨rfl, h1⟩
  clear sA cA0 cA1 cA2 cA3 fA0 fA1 fA2 fA3
  clear sE cE0 cE1 cE2 cE3 fE0 fE1 fE2 fE3
  clear sB cB0 cB1 cB2 cB3 fB0 fB1 fB2 fB3
  clear sC cC0 cC1 cC2 cC3 fC0 fC1 fC2 fC3
  clear sD cD0 cD1 cD2 cD3 fD0 fD1 fD2 fD3
  replace hB := hB.trans (h1.mono hB.size)
  replace rA := Row.below rA h1
  replace rE := Row.below rE h1
  replace rB := Row.below rB h1
  replace rC := Row.below rC h1
  replace rD := Row.below rD h1
  clear h1
  obtain ⟨sA, cA0, cA1, cA2, cA3, fA0, fA1, fA2, fA3⟩ := Row.cells4 rA
  obtain ⟨sE, cE0, cE1, cE2, cE3, fE0, fE1, fE2, fE3⟩ := Row.cells4 rE
  obtain ⟨sB, cB0, cB1, cB2, cB3, fB0, fB1, fB2, fB3⟩ := Row.cells4 rB
  obtain ⟨sC, cC0, cC1, cC2, cC3, fC0, fC1, fC2, fC3⟩ := Row.cells4 rC
  obtain ⟨sD, cD0, cD1, cD2, cD3, fD0, fD1, fD2, fD3⟩ := Row.cells4 rD
  go_wp2_with fail
  have sB := hB.size
  refine world_cut (fun X => Below w.heap.size w X ∧ Row X W3.heap.size (.cells #[.string n4, .string d4, .string n5, .string d5] 29) ∧ Row X W7.heap.size (.cells #[.string ⟨#[]⟩, .string ⟨#[]⟩, .string ⟨#[]⟩, .string ⟨#[]⟩] 29) ∧ Row X W11.heap.size (.cells #[.string n9, .string d9, .string n3, .string d3] 29) ∧ Row X W14.heap.size (.cells #[.string n11, .string d11, .string n12, .string d12] 29) ∧ Row X W18.heap.size (.cells #[.string n6, .string d6, .string n6, .string d6] 29) ∧ Row X W22.heap.size (.cells #[.string ⟨#[]⟩, .string ⟨#[]⟩, .string ⟨#[]⟩, .string ⟨#[]⟩] 29)) ⟨C1_hB, C3_rA, C3_rE, C3_rB, C3_rC, C3_rD, C2⟩ ?_
  clear rA
  clear sA cA0 cA1 cA2 cA3 fA0 fA1 fA2 fA3
  clear rE
  clear sE cE0 cE1 cE2 cE3 fE0 fE1 fE2 fE3
  clear rB
  clear sB cB0 cB1 cB2 cB3 fB0 fB1 fB2 fB3
  clear rC
  clear sC cC0 cC1 cC2 cC3 fC0 fC1 fC2 fC3
  clear rD
  clear sD cD0 cD1 cD2 cD3 fD0 fD1 fD2 fD3
  clear hB sB
  rintro V23 ⟨hB, rA, rE, rB, rC, rD, rG⟩
  obtain ⟨sA, cA0, cA1, cA2, cA3, fA0, fA1, fA2, fA3⟩ := Row.cells4 rA
  obtain ⟨sE, cE0, cE1, cE2, cE3, fE0, fE1, fE2, fE3⟩ := Row.cells4 rE
  obtain ⟨sB, cB0, cB1, cB2, cB3, fB0, fB1, fB2, fB3⟩ := Row.cells4 rB
  obtain ⟨sC, cC0, cC1, cC2, cC3, fC0, fC1, fC2, fC3⟩ := Row.cells4 rC
  obtain ⟨sD, cD0, cD1, cD2, cD3, fD0, fD1, fD2, fD3⟩ := Row.cells4 rD
  obtain ⟨sG, cG0, cG1, cG2, cG3, fG0, fG1, fG2, fG3⟩ := Row.cells4 rG
  refine (RA_1_3 _).mono ?_
  rintro e W24 ⟨rfl, h1⟩
  clear sA cA0 cA1 cA2 cA3 fA0 fA1 fA2 fA3
  clear sE cE0 cE1 cE2 cE3 fE0 fE1 fE2 fE3
  clear sB cB0 cB1 cB2 cB3 fB0 fB1 fB2 fB3
  clear sC cC0 cC1 cC2 cC3 fC0 fC1 fC2 fC3
  clear sD cD0 cD1 cD2 cD3 fD0 fD1 fD2 fD3
  clear sG cG0 cG1 cG2 cG3 fG0 fG1 fG2 fG3
  replace hB := hB.trans (h1.mono hB.size)
  replace rA := Row.below rA h1
  replace rE := Row.below rE h1
  replace rB := Row.below rB h1
  replace rC := Row.below rC h1
  replace rD := Row.below rD h1
  replace rG := Row.below rG h1
  clear h1
  obtain ⟨sA, cA0, cA1, cA2, cA3, fA0, fA1, fA2, fA3⟩ := Row.cells4 rA
  obtain ⟨sE, cE0, cE1, cE2, cE3, fE0, fE1, fE2, fE3⟩ := Row.cells4 rE
  obtain ⟨sB, cB0, cB1, cB2, cB3, fB0, fB1, fB2, fB3⟩ := Row.cells4 rB
  obtain ⟨sC, cC0, cC1, cC2, cC3, fC0, fC1, fC2, fC3⟩ := Row.cells4 rC
  obtain ⟨sD, cD0, cD1, cD2, cD3, fD0, fD1, fD2, fD3⟩ := Row.cells4 rD
  obtain ⟨sG, cG0, cG1, cG2, cG3, fG0, fG1, fG2, fG3⟩ := Row.cells4 rG
  go_wp2_with fail
  refine (RA_2_3 _).mono ?_
  rintro e W25 ⟨rfl, h1⟩
  clear sA cA0 cA1 cA2 cA3 fA0 fA1 fA2 fA3
  clear sE cE0 cE1 cE2 cE3 fE0 fE1 fE2 fE3
  clear sB cB0 cB1 cB2 cB3 fB0 fB1 fB2 fB3
  clear sC cC0 cC1 cC2 cC3 fC0 fC1 fC2 fC3
  clear sD cD0 cD1 cD2 cD3 fD0 fD1 fD2 fD3
  clear sG cG0 cG1 cG2 cG3 fG0 fG1 fG2 fG3
  replace hB := hB.trans (h1.mono hB.size)
  replace rA := Row.below rA h1
  replace rE := Row.below rE h1
  replace rB := Row.below rB h1
  replace rC := Row.below rC h1
  replace rD := Row.below rD h1
  replace rG := Row.below rG h1
  clear h1
  obtain ⟨sA, cA0, cA1, cA2, cA3, fA0, fA1, fA2, fA3⟩ := Row.cells4 rA
  obtain ⟨sE, cE0, cE1, cE2, cE3, fE0, fE1, fE2, fE3⟩ := Row.cells4 rE
  obtain ⟨sB, cB0, cB1, cB2, cB3, fB0, fB1, fB2, fB3⟩ := Row.cells4 rB
  obtain ⟨sC, cC0, cC1, cC2, cC3, fC0, fC1, fC2, fC3⟩ := Row.cells4 rC
  obtain ⟨sD, cD0, cD1, cD2, cD3, fD0, fD1, fD2, fD3⟩ := Row.cells4 rD
  obtain ⟨sG, cG0, cG1, cG2, cG3, fG0, fG1, fG2, fG3⟩ := Row.cells4 rG
  go_wp2_with fail
  refine (M_round _ (he.below hB)).mono ?_
  rintro e W26 ⟨rfl, h1⟩
  clear sA cA0 cA1 cA2 cA3 fA0 fA1 fA2 fA3
  clear sE cE0 cE1 cE2 cE3 fE0 fE1 fE2 fE3
  clear sB cB0 cB1 cB2 cB3 fB0 fB1 fB2 fB3
  clear sC cC0 cC1 cC2 cC3 fC0 fC1 fC2 fC3
  clear sD cD0 cD1 cD2 cD3 fD0 fD1 fD2 fD3
  clear sG cG0 cG1 cG2 cG3 fG0 fG1 fG2 fG3
  replace hB := hB.trans (h1.mono hB.size)
  replace rA := Row.below rA h1
  replace rE := Row.below rE h1
  replace rB := Row.below rB h1
  replace rC := Row.below rC h1
  replace rD := Row.below rD h1
  replace rG := Row.below rG h1
  clear h1
  obtain ⟨sA, cA0, cA1, cA2, cA3, fA0, fA1, fA2, fA3⟩ := Row.cells4 rA
  obtain ⟨sE, cE0, cE1, cE2, cE3, fE0, fE1, fE2, fE3⟩ := Row.cells4 rE
  obtain ⟨sB, cB0, cB1, cB2, cB3, fB0, fB1, fB2, fB3⟩ := Row.cells4 rB
  obtain ⟨sC, cC0, cC1, cC2, cC3, fC0, fC1, fC2, fC3⟩ := Row.cells4 rC
  obtain ⟨sD, cD0, cD1, cD2, cD3, fD0, fD1, fD2, fD3⟩ := Row.cells4 rD
  obtain ⟨sG, cG0, cG1, cG2, cG3, fG0, fG1, fG2, fG3⟩ := Row.cells4 rG
  go_wp2_with fail
  have sB := hB.size
  refine world_cut (fun X => Below w.heap.size w X ∧ Row X W3.heap.size (.cells #[.string n4, .string d4, .string n5, .string d5] 29) ∧ Row X W7.heap.size (.cells #[.string ⟨#[]⟩, .string ⟨#[]⟩, .string ⟨#[]⟩, .string ⟨#[]⟩] 29) ∧ Row X W11.heap.size (.cells #[.string n9, .string d9, .string n3, .string d3] 29) ∧ Row X W14.heap.size (.cells #[.string n11, .string d11, .string n12, .string d12] 29) ∧ Row X W18.heap.size (.cells #[.string n6, .string d6, .string n6, .string d6] 29) ∧ Row X W22.heap.size (.cells #[.string ⟨#[]⟩, .string ⟨#[]⟩, .string ⟨#[]⟩, .string ⟨#[]⟩] 29) ∧ Row X W26.heap.size (.cells #[.string n15, .string d15, .string n16, .string d16] 29)) ⟨C1_hB, C3_rA, C3_rE, C3_rB, C3_rC, C3_rD, C3_rG, C2⟩ ?_
  clear rA
  clear sA cA0 cA1 cA2 cA3 fA0 fA1 fA2 fA3
  clear rE
  clear sE cE0 cE1 cE2 cE3 fE0 fE1 fE2 fE3
  clear rB
  clear sB cB0 cB1 cB2 cB3 fB0 fB1 fB2 fB3
  clear rC
  clear sC cC0 cC1 cC2 cC3 fC0 fC1 fC2 fC3
  clear rD
  clear sD cD0 cD1 cD2 cD3 fD0 fD1 fD2 fD3
  clear rG
  clear sG cG0 cG1 cG2 cG3 fG0 fG1 fG2 fG3
  clear hB sB
  rintro V27 ⟨hB, rA, rE, rB, rC, rD, rG, rH⟩
  obtain ⟨sA, cA0, cA1, cA2, cA3, fA0, fA1, fA2, fA3⟩ := Row.cells4 rA
  obtain ⟨sE, cE0, cE1, cE2, cE3, fE0, fE1, fE2, fE3⟩ := Row.cells4 rE
  obtain ⟨sB, cB0, cB1, cB2, cB3, fB0, fB1, fB2, fB3⟩ := Row.cells4 rB
  obtain ⟨sC, cC0, cC1, cC2, cC3, fC0, fC1, fC2, fC3⟩ := Row.cells4 rC
  obtain ⟨sD, cD0, cD1, cD2, cD3, fD0, fD1, fD2, fD3⟩ := Row.cells4 rD
  obtain ⟨sG, cG0, cG1, cG2, cG3, fG0, fG1, fG2, fG3⟩ := Row.cells4 rG
  obtain ⟨sH, cH0, cH1, cH2, cH3, fH0, fH1, fH2, fH3⟩ := Row.cells4 rH
  refine (SP_m1_4 _).mono ?_
  rintro e W28 ⟨rfl, h1⟩
  clear sA cA0 cA1 cA2 cA3 fA0 fA1 fA2 fA3
  clear sE cE0 cE1 cE2 cE3 fE0 fE1 fE2 fE3
  clear sB cB0 cB1 cB2 cB3 fB0 fB1 fB2 fB3
  clear sC cC0 cC1 cC2 cC3 fC0 fC1 fC2 fC3
  clear sD cD0 cD1 cD2 cD3 fD0 fD1 fD2 fD3
  clear sG cG0 cG1 cG2 cG3 fG0 fG1 fG2 fG3
  clear sH cH0 cH1 cH2 cH3 fH0 fH1 fH2 fH3
  replace hB := hB.trans (h1.mono hB.size)
  replace rA := Row.below rA h1
  replace rE := Row.below rE h1
  replace rB := Row.below rB h1
  replace rC := Row.below rC h1
  replace rD := Row.below rD h1
  replace rG := Row.below rG h1
  replace rH := Row.below rH h1
  clear h1
  obtain ⟨sA, cA0, cA1, cA2, cA3, fA0, fA1, fA2, fA3⟩ := Row.cells4 rA
  obtain ⟨sE, cE0, cE1, cE2, cE3, fE0, fE1, fE2, fE3⟩ := Row.cells4 rE
  obtain ⟨sB, cB0, cB1, cB2, cB3, fB0, fB1, fB2, fB3⟩ := Row.cells4 rB
  obtain ⟨sC, cC0, cC1, cC2, cC3, fC0, fC1, fC2, fC3⟩ := Row.cells4 rC
  obtain ⟨sD, cD0, cD1, cD2, cD3, fD0, fD1, fD2, fD3⟩ := Row.cells4 rD
  obtain ⟨sG, cG0, cG1, cG2, cG3, fG0, fG1, fG2, fG3⟩ := Row.cells4 rG
  obtain ⟨sH, cH0, cH1, cH2, cH3, fH0, fH1, fH2, fH3⟩ := Row.cells4 rH
  go_wp2_with fail
  refine (M_width _ (he.below hB)).mono ?_
  rintro e W29 ⟨rfl, h1⟩
  clear sA cA0 cA1 cA2 cA3 fA0 fA1 fA2 fA3
  clear sE cE0 cE1 cE2 cE3 fE0 fE1 fE2 fE3
  clear sB cB0 cB1 cB2 cB3 fB0 fB1 fB2 fB3
  clear sC cC0 cC1 cC2 cC3 fC0 fC1 fC2 fC3
  clear sD cD0 cD1 cD2 cD3 fD0 fD1 fD2 fD3
  clear sG cG0 cG1 cG2 cG3 fG0 fG1 fG2 fG3
  clear sH cH0 cH1 cH2 cH3 fH0 fH1 fH2 fH3
  replace hB := hB.trans (h1.mono hB.size)
  replace rA := Row.below rA h1
  replace rE := Row.below rE h1
  replace rB := Row.below rB h1
  replace rC := Row.below rC h1
  replace rD := Row.below rD h1
  replace rG := Row.below rG h1
  replace rH := Row.below rH h1
  clear h1
  obtain ⟨sA, cA0, cA1, cA2, cA3, fA0, fA1, fA2, fA3⟩ := Row.cells4 rA
  obtain ⟨sE, cE0, cE1, cE2, cE3, fE0, fE1, fE2, fE3⟩ := Row.cells4 rE
  obtain ⟨sB, cB0, cB1, cB2, cB3, fB0, fB1, fB2, fB3⟩ := Row.cells4 rB
  obtain ⟨sC, cC0, cC1, cC2, cC3, fC0, fC1, fC2, fC3⟩ := Row.cells4 rC
  obtain ⟨sD, cD0, cD1, cD2, cD3, fD0, fD1, fD2, fD3⟩ := Row.cells4 rD
  obtain ⟨sG, cG0, cG1, cG2, cG3, fG0, fG1, fG2, fG3⟩ := Row.cells4 rG
  obtain ⟨sH, cH0, cH1, cH2, cH3, fH0, fH1, fH2, fH3⟩ := Row.cells4 rH
  go_wp2_with fail
  have sB := hB.size
  refine wp_cut (fun X => Below w.heap.size w X ∧ Row X W3.heap.size (.cells #[.string n4, .string d4, .string n5, .string d5] 29) ∧ Row X W7.heap.size (.cells #[.string ⟨#[]⟩, .string ⟨#[]⟩, .string ⟨#[]⟩, .string ⟨#[]⟩] 29) ∧ Row X W11.heap.size (.cells #[.string n9, .string d9, .string n3, .string d3] 29) ∧ Row X W14.heap.size (.cells #[.string n11, .string d11, .string n12, .string d12] 29) ∧ Row X W18.heap.size (.cells #[.string n6, .string d6, .string n6, .string d6] 29) ∧ Row X W22.heap.size (.cells #[.string ⟨#[]⟩, .string ⟨#[]⟩, .string ⟨#[]⟩, .string ⟨#[]⟩] 29) ∧ Row X W26.heap.size (.cells #[.string n15, .string d15, .string n16, .string d16] 29) ∧ Row X W29.heap.size (.cells #[.string n10, .string d10] 26)) ⟨C1_hB, C3_rA, C3_rE, C3_rB, C3_rC, C3_rD, C3_rG, C3_rH, C2⟩ ?_
  clear rA
  clear sA cA0 cA1 cA2 cA3 fA0 fA1 fA2 fA3
  clear rE
  clear sE cE0 cE1 cE2 cE3 fE0 fE1 fE2 fE3
  clear rB
  clear sB cB0 cB1 cB2 cB3 fB0 fB1 fB2 fB3
  clear rC
  clear sC cC0 cC1 cC2 cC3 fC0 fC1 fC2 fC3
  clear rD
  clear sD cD0 cD1 cD2 cD3 fD0 fD1 fD2 fD3
  clear rG
  clear sG cG0 cG1 cG2 cG3 fG0 fG1 fG2 fG3
  clear rH
  clear sH cH0 cH1 cH2 cH3 fH0 fH1 fH2 fH3
  clear hB sB
  rintro V30 ⟨hB, rA, rE, rB, rC, rD, rG, rH, rJ⟩
  obtain ⟨sA, cA0, cA1, cA2, cA3, fA0, fA1, fA2, fA3⟩ := Row.cells4 rA
  obtain ⟨sE, cE0, cE1, cE2, cE3, fE0, fE1, fE2, fE3⟩ := Row.cells4 rE
  obtain ⟨sB, cB0, cB1, cB2, cB3, fB0, fB1, fB2, fB3⟩ := Row.cells4 rB
  obtain ⟨sC, cC0, cC1, cC2, cC3, fC0, fC1, fC2, fC3⟩ := Row.cells4 rC
  obtain ⟨sD, cD0, cD1, cD2, cD3, fD0, fD1, fD2, fD3⟩ := Row.cells4 rD
  obtain ⟨sG, cG0, cG1, cG2, cG3, fG0, fG1, fG2, fG3⟩ := Row.cells4 rG
  obtain ⟨sH, cH0, cH1, cH2, cH3, fH0, fH1, fH2, fH3⟩ := Row.cells4 rH
  obtain ⟨sJ, cJ0, cJ1, fJ0, fJ1⟩ := Row.cells2 rJ
  clear rE sE cE0 cE1 cE2 cE3 fE0 fE1 fE2 fE3
  clear rG sG cG0 cG1 cG2 cG3 fG0 fG1 fG2 fG3
  have K1 : ∀ X, Row X (W3.heap.size) (.cells #[.string n4, .string d4, .string n5, .string d5] 29) → Row X (W11.heap.size) (.cells #[.string n9, .string d9, .string n3, .string d3] 29) → Row X (W14.heap.size) (.cells #[.string n11, .string d11, .string n12, .string d12] 29) → (X.cell? ⟨W3.heap.size, 0, none⟩ = some (.string n4) ∧ X.cell? ⟨W3.heap.size, 1, none⟩ = some (.string d4) ∧ X.cell? ⟨W3.heap.size, 2, none⟩ = some (.string n5) ∧ X.cell? ⟨W3.heap.size, 3, none⟩ = some (.string d5) ∧ X.cell? ⟨W11.heap.size, 0, none⟩ = some (.string n9) ∧ X.cell? ⟨W11.heap.size, 1, none⟩ = some (.string d9) ∧ X.cell? ⟨W11.heap.size, 2, none⟩ = some (.string n3) ∧ X.cell? ⟨W11.heap.size, 3, none⟩ = some (.string d3) ∧ X.cell? ⟨W14.heap.size, 0, none⟩ = some (.string n11) ∧ X.cell? ⟨W14.heap.size, 1, none⟩ = some (.string d11) ∧ X.cell? ⟨W14.heap.size, 2, none⟩ = some (.string n12) ∧ X.cell? ⟨W14.heap.size, 3, none⟩ = some (.string d12)) := fun X hA hB hC => ⟨(Row.cells4 hA).2.1, (Row.cells4 hA).2.2.1, (Row.cells4 hA).2.2.2.1, (Row.cells4 hA).2.2.2.2.1, (Row.cells4 hB).2.1, (Row.cells4 hB).2.2.1, (Row.cells4 hB).2.2.2.1, (Row.cells4 hB).2.2.2.2.1, (Row.cells4 hC).2.1, (Row.cells4 hC).2.2.1, (Row.cells4 hC).2.2.2.1, (Row.cells4 hC).2.2.2.2.1⟩
  have K2 : ∀ X, Row X (W18.heap.size) (.cells #[.string n6, .string d6, .string n6, .string d6] 29) → Row X (W26.heap.size) (.cells #[.string n15, .string d15, .string n16, .string d16] 29) → Row X (W29.heap.size) (.cells #[.string n10, .string d10] 26) → (X.cell? ⟨W18.heap.size, 0, none⟩ = some (.string n6) ∧ X.cell? ⟨W18.heap.size, 1, none⟩ = some (.string d6) ∧ X.cell? ⟨W18.heap.size, 2, none⟩ = some (.string n6) ∧ X.cell? ⟨W18.heap.size, 3, none⟩ = some (.string d6) ∧ X.cell? ⟨W26.heap.size, 0, none⟩ = some (.string n15) ∧ X.cell? ⟨W26.heap.size, 1, none⟩ = some (.string d15) ∧ X.cell? ⟨W26.heap.size, 2, none⟩ = some (.string n16) ∧ X.cell? ⟨W26.heap.size, 3, none⟩ = some (.string d16) ∧ X.cell? ⟨W29.heap.size, 0, none⟩ = some (.string n10) ∧ X.cell? ⟨W29.heap.size, 1, none⟩ = some (.string d10)) := fun X hD hH hJ => ⟨(Row.cells4 hD).2.1, (Row.cells4 hD).2.2.1, (Row.cells4 hD).2.2.2.1, (Row.cells4 hD).2.2.2.2.1, (Row.cells4 hH).2.1, (Row.cells4 hH).2.2.1, (Row.cells4 hH).2.2.2.1, (Row.cells4 hH).2.2.2.2.1, (Row.cells2 hJ).2.1, (Row.cells2 hJ).2.2.1⟩
  go_region_held3 (fun X => X.cell? ⟨W3.heap.size, 0, none⟩ = some (.string n4) ∧ X.cell? ⟨W3.heap.size, 1, none⟩ = some (.string d4) ∧ X.cell? ⟨W3.heap.size, 2, none⟩ = some (.string n5) ∧ X.cell? ⟨W3.heap.size, 3, none⟩ = some (.string d5) ∧ X.cell? ⟨W11.heap.size, 0, none⟩ = some (.string n9) ∧ X.cell? ⟨W11.heap.size, 1, none⟩ = some (.string d9) ∧ X.cell? ⟨W11.heap.size, 2, none⟩ = some (.string n3) ∧ X.cell? ⟨W11.heap.size, 3, none⟩ = some (.string d3) ∧ X.cell? ⟨W14.heap.size, 0, none⟩ = some (.string n11) ∧ X.cell? ⟨W14.heap.size, 1, none⟩ = some (.string d11) ∧ X.cell? ⟨W14.heap.size, 2, none⟩ = some (.string n12) ∧ X.cell? ⟨W14.heap.size, 3, none⟩ = some (.string d12)) (first | exact K1 _ C3_rA C3_rB C3_rC) (first
      | (go_at_call 50; with_reducible refine (SP_m15_10 _).mono ?_; rintro e W ⟨rfl, h1⟩; (try replace h1 := below_of_drew h1); replace hB := hB.trans (h1.mono hB.size); replace rA := Row.below rA h1; replace rB := Row.below rB h1; replace rC := Row.below rC h1; replace rD := Row.below rD h1; replace rH := Row.below rH h1; replace rJ := Row.below rJ h1)
      | (go_at_call 18; with_reducible refine (RA_1_4 _).mono ?_; rintro e W ⟨rfl, h1⟩; (try replace h1 := below_of_drew h1); replace hB := hB.trans (h1.mono hB.size); replace rA := Row.below rA h1; replace rB := Row.below rB h1; replace rC := Row.below rC h1; replace rD := Row.below rD h1; replace rH := Row.below rH h1; replace rJ := Row.below rJ h1)
      | (go_at_call 18; with_reducible refine (RA_1_1 _).mono ?_; rintro e W ⟨rfl, h1⟩; (try replace h1 := below_of_drew h1); replace hB := hB.trans (h1.mono hB.size); replace rA := Row.below rA h1; replace rB := Row.below rB h1; replace rC := Row.below rC h1; replace rD := Row.below rD h1; replace rH := Row.below rH h1; replace rJ := Row.below rJ h1)
      | (go_at_call 18; with_reducible refine (RA_7_5 _).mono ?_; rintro e W ⟨rfl, h1⟩; (try replace h1 := below_of_drew h1); replace hB := hB.trans (h1.mono hB.size); replace rA := Row.below rA h1; replace rB := Row.below rB h1; replace rC := Row.below rC h1; replace rD := Row.below rD h1; replace rH := Row.below rH h1; replace rJ := Row.below rJ h1)
      | (go_at_call 18; with_reducible refine (RA_9_5 _).mono ?_; rintro e W ⟨rfl, h1⟩; (try replace h1 := below_of_drew h1); replace hB := hB.trans (h1.mono hB.size); replace rA := Row.below rA h1; replace rB := Row.below rB h1; replace rC := Row.below rC h1; replace rD := Row.below rD h1; replace rH := Row.below rH h1; replace rJ := Row.below rJ h1))
  go_wp2_with fail
  go_region_held3 (fun X => X.cell? ⟨W18.heap.size, 0, none⟩ = some (.string n6) ∧ X.cell? ⟨W18.heap.size, 1, none⟩ = some (.string d6) ∧ X.cell? ⟨W18.heap.size, 2, none⟩ = some (.string n6) ∧ X.cell? ⟨W18.heap.size, 3, none⟩ = some (.string d6) ∧ X.cell? ⟨W26.heap.size, 0, none⟩ = some (.string n15) ∧ X.cell? ⟨W26.heap.size, 1, none⟩ = some (.string d15) ∧ X.cell? ⟨W26.heap.size, 2, none⟩ = some (.string n16) ∧ X.cell? ⟨W26.heap.size, 3, none⟩ = some (.string d16) ∧ X.cell? ⟨W29.heap.size, 0, none⟩ = some (.string n10) ∧ X.cell? ⟨W29.heap.size, 1, none⟩ = some (.string d10)) (first | exact K2 _ C3_rD C3_rH C3_rJ) (first
      | (go_at_call 50; with_reducible refine (SP_2_2 _).mono ?_; rintro e W ⟨rfl, h1⟩; (try replace h1 := below_of_drew h1); replace hB := hB.trans (h1.mono hB.size); replace rA := Row.below rA h1; replace rB := Row.below rB h1; replace rC := Row.below rC h1; replace rD := Row.below rD h1; replace rH := Row.below rH h1; replace rJ := Row.below rJ h1)
      | (go_at_call 18; with_reducible refine (RA_3_10 _).mono ?_; rintro e W ⟨rfl, h1⟩; (try replace h1 := below_of_drew h1); replace hB := hB.trans (h1.mono hB.size); replace rA := Row.below rA h1; replace rB := Row.below rB h1; replace rC := Row.below rC h1; replace rD := Row.below rD h1; replace rH := Row.below rH h1; replace rJ := Row.below rJ h1)
      | (go_at_call 18; with_reducible refine (RA_7_10 _).mono ?_; rintro e W ⟨rfl, h1⟩; (try replace h1 := below_of_drew h1); replace hB := hB.trans (h1.mono hB.size); replace rA := Row.below rA h1; replace rB := Row.below rB h1; replace rC := Row.below rC h1; replace rD := Row.below rD h1; replace rH := Row.below rH h1; replace rJ := Row.below rJ h1)
      | (go_at_call 18; with_reducible refine (RA_5_1 _).mono ?_; rintro e W ⟨rfl, h1⟩; (try replace h1 := below_of_drew h1); replace hB := hB.trans (h1.mono hB.size); replace rA := Row.below rA h1; replace rB := Row.below rB h1; replace rC := Row.below rC h1; replace rD := Row.below rD h1; replace rH := Row.below rH h1; replace rJ := Row.below rJ h1))
  go_wp2_with fail
  go_region_held3 (fun X => X.cell? ⟨W3.heap.size, 0, none⟩ = some (.string n4) ∧ X.cell? ⟨W3.heap.size, 1, none⟩ = some (.string d4) ∧ X.cell? ⟨W3.heap.size, 2, none⟩ = some (.string n5) ∧ X.cell? ⟨W3.heap.size, 3, none⟩ = some (.string d5) ∧ X.cell? ⟨W11.heap.size, 0, none⟩ = some (.string n9) ∧ X.cell? ⟨W11.heap.size, 1, none⟩ = some (.string d9) ∧ X.cell? ⟨W11.heap.size, 2, none⟩ = some (.string n3) ∧ X.cell? ⟨W11.heap.size, 3, none⟩ = some (.string d3) ∧ X.cell? ⟨W14.heap.size, 0, none⟩ = some (.string n11) ∧ X.cell? ⟨W14.heap.size, 1, none⟩ = some (.string d11) ∧ X.cell? ⟨W14.heap.size, 2, none⟩ = some (.string n12) ∧ X.cell? ⟨W14.heap.size, 3, none⟩ = some (.string d12)) (first | exact K1 _ C3_rA C3_rB C3_rC) (first
      | (go_at_call 54; with_reducible refine (V_valid _ (by first | exact he.env.below hB | exact he.env.below hB.drew | exact he.env.below (below_drewN hB _))).mono ?_; rintro e W ⟨rfl, h1⟩; (try replace h1 := below_of_drew h1); replace hB := hB.trans (h1.mono hB.size); replace rA := Row.below rA h1; replace rB := Row.below rB h1; replace rC := Row.below rC h1; replace rD := Row.below rD h1; replace rH := Row.below rH h1; replace rJ := Row.below rJ h1)
      | (go_at_call 50; with_reducible refine (SP_2_1 _).mono ?_; rintro e W ⟨rfl, h1⟩; (try replace h1 := below_of_drew h1); replace hB := hB.trans (h1.mono hB.size); replace rA := Row.below rA h1; replace rB := Row.below rB h1; replace rC := Row.below rC h1; replace rD := Row.below rD h1; replace rH := Row.below rH h1; replace rJ := Row.below rJ h1)
      | (go_at_call 54; with_reducible refine (V_valid0 _ (by first | exact he.env.below hB | exact he.env.below hB.drew | exact he.env.below (below_drewN hB _))).mono ?_; rintro e W ⟨rfl, h1⟩; (try replace h1 := below_of_drew h1); replace hB := hB.trans (h1.mono hB.size); replace rA := Row.below rA h1; replace rB := Row.below rB h1; replace rC := Row.below rC h1; replace rD := Row.below rD h1; replace rH := Row.below rH h1; replace rJ := Row.below rJ h1)
      | (go_at_call 18; with_reducible refine (RA_0_1 _).mono ?_; rintro e W ⟨rfl, h1⟩; (try replace h1 := below_of_drew h1); replace hB := hB.trans (h1.mono hB.size); replace rA := Row.below rA h1; replace rB := Row.below rB h1; replace rC := Row.below rC h1; replace rD := Row.below rD h1; replace rH := Row.below rH h1; replace rJ := Row.below rJ h1)
      | (go_at_call 23; with_reducible refine (V_contains _ (by first | exact he.env.below hB | exact he.env.below hB.drew | exact he.env.below (below_drewN hB _))).mono ?_; rintro e W ⟨rfl, h1⟩; (try replace h1 := below_of_drew h1); replace hB := hB.trans (h1.mono hB.size); replace rA := Row.below rA h1; replace rB := Row.below rB h1; replace rC := Row.below rC h1; replace rD := Row.below rD h1; replace rH := Row.below rH h1; replace rJ := Row.below rJ h1)
      | (go_at_call 17; with_reducible refine (V_within _ (by first | exact he.env.below hB | exact he.env.below hB.drew | exact he.env.below (below_drewN hB _))).mono ?_; rintro e W ⟨rfl, h1⟩; (try replace h1 := below_of_drew h1); replace hB := hB.trans (h1.mono hB.size); replace rA := Row.below rA h1; replace rB := Row.below rB h1; replace rC := Row.below rC h1; replace rD := Row.below rD h1; replace rH := Row.below rH h1; replace rJ := Row.below rJ h1)
      | (go_at_call 18; with_reducible refine (RA_3_1 _).mono ?_; rintro e W ⟨rfl, h1⟩; (try replace h1 := below_of_drew h1); replace hB := hB.trans (h1.mono hB.size); replace rA := Row.below rA h1; replace rB := Row.below rB h1; replace rC := Row.below rC h1; replace rD := Row.below rD h1; replace rH := Row.below rH h1; replace rJ := Row.below rJ h1)
      | (go_at_call 55; with_reducible refine (V_point _ (by first | exact he.env.below hB | exact he.env.below hB.drew | exact he.env.below (below_drewN hB _))).mono ?_; rintro e W ⟨rfl, h1⟩; (try replace h1 := below_of_drew h1); replace hB := hB.trans (h1.mono hB.size); replace rA := Row.below rA h1; replace rB := Row.below rB h1; replace rC := Row.below rC h1; replace rD := Row.below rD h1; replace rH := Row.below rH h1; replace rJ := Row.below rJ h1)
      | (go_at_call 50; with_reducible refine (SP_3_3 _).mono ?_; rintro e W ⟨rfl, h1⟩; (try replace h1 := below_of_drew h1); replace hB := hB.trans (h1.mono hB.size); replace rA := Row.below rA h1; replace rB := Row.below rB h1; replace rC := Row.below rC h1; replace rD := Row.below rD h1; replace rH := Row.below rH h1; replace rJ := Row.below rJ h1))
  go_wp2
  go_ret
  exact ⟨rfl, hB⟩
end Go.Proofs.YtngohpgkceedeaaGreatDoor
