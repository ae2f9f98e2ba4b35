/-
  The reference implementation: numbers of the machine. The reference implementation of fractions: Valid, Make, Of, Add, Sub, Mul.
-/
import Derived.Test.YtngohpgkceedeaaGreatDoorWQPlain6
import Derived.Test.YtngohpgkceedeaaGreatDoorWQPlain7
import Derived.Test.YtngohpgkceedeaaGreatDoorWRefF
import Derived.Test.YtngohpgkceedeaaGreatDoorWTail
namespace Go.Proofs.YtngohpgkceedeaaGreatDoor
open Go Go.RowKit Go.Lib Go.Shelf

/-- The digits that have been taken off. -/
structure FInv (u m : Nat) (l : List Nat) : Prop where
  small : Small10 l
  eq : val10 l + 10 ^ l.length * m = u
  top : l ≠ [] → 10 ^ (l.length - 1) ≤ u
theorem FInv.start (u : Nat) : FInv u u [] := ⟨small10_nil, by simp [val10], fun h => absurd rfl h⟩
theorem FInv.step {u m : Nat} {l : List Nat} (h : FInv u m l) (hm : 0 < m) : FInv u (m / 10) (l ++ [m % 10]) := by
  have he := h.eq
  have hdm := Nat.div_add_mod m 10
  refine ⟨h.small.append (Small10.mk (Nat.mod_lt _ (by decide)) small10_nil), ?_, fun _ => ?_⟩
  · rw [val10_snoc, List.length_append, List.length_cons, List.length_nil, Nat.zero_add, Nat.pow_succ]
    generalize m / 10 = q at *
    generalize m % 10 = r at *
    rw [← hdm, Nat.mul_add] at he
    rw [Nat.mul_comm r, Nat.mul_assoc]
    omega
  · rw [List.length_append, List.length_cons, List.length_nil, Nat.zero_add, Nat.add_sub_cancel]
    have : 10 ^ l.length ≤ 10 ^ l.length * m := Nat.le_mul_of_pos_right _ hm
    omega
theorem FInv.len {u m : Nat} {l : List Nat} (h : FInv u m l) (hu : u ≤ 9223372036854775808) : l.length ≤ 19 := by
  by_cases hl : l = []
  · subst hl; simp
  · have h1 := h.top hl
    have h2 : (10 : Nat) ^ (l.length - 1) < 10 ^ 19 := by
      have : (9223372036854775808 : Nat) < 10 ^ 19 := by decide
      omega
    have := (Nat.pow_lt_pow_iff_right (by decide : 1 < 10)).1 h2
    omega
theorem FInv.done {u : Nat} {l : List Nat} (h : FInv u 0 l) : Norm10 l ∧ val10 l = u := by
  have hv : val10 l = u := by have := h.eq; omega
  refine ⟨?_, hv⟩
  by_cases hl : l = []
  · subst hl; exact norm10_nil
  · exact norm10_of_ge h.small hl (by rw [hv]; exact h.top hl)
theorem tneg (m : Int) (h : m ≤ 0) : m.tmod 10 ≤ 0 ∧ m.tdiv 10 ≤ 0 := by
  obtain ⟨p, rfl⟩ : ∃ p : Int, m = -p := ⟨-m, by omega⟩
  rw [Int.neg_tmod, Int.neg_tdiv]
  have h1 : 0 ≤ p.tmod 10 := Int.tmod_nonneg _ (by omega)
  have h2 : 0 ≤ p.tdiv 10 := Int.tdiv_nonneg (by omega) (by omega)
  omega
theorem FInv.done0 {u : Nat} {l : List Nat} (h : FInv u (Int.natAbs 0) l) : Norm10 l ∧ val10 l = u := FInv.done h
set_option maxRecDepth 100000 in
set_option maxHeartbeats 2000000 in
theorem rfrom_nn (n : Int) (hj : IsInt n) (hn : 0 ≤ n) (w : World) : Calls Tryz.prog 133 #[.int .i64 n] w (FromOk n w) := by
  obtain ⟨i0, hi, hz0, hz1, hz2⟩ := info_parts intInfo
  have b0 := hj.1
  have b1 := hj.2
  have hs : Hid (sv false n.natAbs = n) := Lib.hid (by simp [sv]; omega)
  have hn9 : decide (n < 0) = false := decide_eq_false (by omega)
  go_enter Tryz.func133, Tryz.ntmps133
  go_wp2
  go_loopw [3, 4] (fun v mv wr => ∃ (mm : Int) (k : Nat) (V : Option Addr) (cv : Nat) (l : List Nat), v = .slice V k cv ∧ mv = .int .i64 mm ∧ wr.ownsRow w.heap.size 3 1 (.slice V k cv) k (ints l) ∧ Below w.heap.size w wr ∧ Hid (FInv n.natAbs mm.natAbs l) ∧ 0 ≤ mm ∧ -9223372036854775808 ≤ mm ∧ mm ≤ 9223372036854775807)
    (fun _ mv _ => (RowKit.intOf mv).natAbs)
  case atStart => exact ⟨n, 0, none, 0, [], rfl, rfl, World.ownsRow_nil _ _ _ _, Below.refl _ _, FInv.start _, by omega, by omega, by omega⟩
  case round =>
    obtain ⟨mm, k, V, cv, l, rfl, rfl, hown, hB, hI, hm0, hm1, hm2⟩ := hrel
    have hlen := hI.out.len (by omega)
    have hkl : k = l.length := by have := hown.1; simpa [ints] using this.symm
    have hk : k ≤ 19 := by omega
    clear hlen hkl
    by_cases hz : mm = 0
    · subst hz
      have hd := Lib.hid hI.out.done0
      clear hI
      have hnum : NumV wr V k l := Reads.of_own hown
      have hcap := own_le hown
      have hisd : IsD wr V k cv n.natAbs := ⟨l, hnum, hd.out.1, hd.out.2, hcap⟩
      go_wp2_with (go_at_call 166; go_must ((with_reducible refine (rtextD false hs _ hisd (by omega)).mono ?_); rintro e w2 ⟨rfl, hb2⟩))
      go_ret
      exact ⟨rfl, hB.trans (hb2.mono hB.size)⟩
    · have hne : (mm == 0) = false := by simpa using hz
      have hst := Lib.hid (hI.out.step (by omega))
      have hmp : 0 < mm := by omega
      have hD := Lib.hid (show (mm % 10).toNat = mm.natAbs % 10 by omega)
      have hQ := Lib.hid (show (mm / 10).natAbs = mm.natAbs / 10 by omega)
      clear hz
      go_wp2_with (at_builtin; refine wpList_append_own _ rfl (.tmp 19) (.tmp 21) 58 rfl w.heap.size 3 i0 (.int .i64 0) 1 8 Tryz.underlying58 hi hz0 hz1 hz2 rfl (by decide) (.slice V k cv) k (ints l) rfl (hown.alloc _) ⟨wr.heap.size, 0, none⟩ 1 1 [.int .i64 (mm % 10)] rfl rfl (cell_one_new _ _ _) (by simp [Value.oneCell']) (by unfold maxLen; omega) (by omega) (by have := hB.size; simp; omega) ?_; intro v' w3 hown3 hgrow3 _; obtain ⟨V3, c3, rfl⟩ := own_slice hown3)
      go_roundw
      case rel => exact ⟨mm / 10, k + 1, V3, c3, l ++ [(mm % 10).toNat], rfl, rfl, by rw [← ints_snoc _ _ (by omega)]; exact hown3, (hB.alloc hB.size _).grown hgrow3 (by have := hB.size; simp; omega) (own_ge hown), by rw [hD.out, hQ.out]; exact hst, by omega, by omega, by omega⟩
      case measure => simp only [RowKit.intOf]; omega
set_option maxRecDepth 100000 in
set_option maxHeartbeats 2000000 in
theorem rfrom_neg (n : Int) (hj : IsInt n) (hn : n < 0) (w : World) : Calls Tryz.prog 133 #[.int .i64 n] w (FromOk n w) := by
  obtain ⟨i0, hi, hz0, hz1, hz2⟩ := info_parts intInfo
  have b0 := hj.1
  have b1 := hj.2
  have hs : Hid (sv true n.natAbs = n) := Lib.hid (by simp [sv]; omega)
  go_enter Tryz.func133, Tryz.ntmps133
  go_wp2
  go_loopw [3, 4] (fun v mv wr => ∃ (mm : Int) (k : Nat) (V : Option Addr) (cv : Nat) (l : List Nat), v = .slice V k cv ∧ mv = .int .i64 mm ∧ wr.ownsRow w.heap.size 3 1 (.slice V k cv) k (ints l) ∧ Below w.heap.size w wr ∧ Hid (FInv n.natAbs mm.natAbs l) ∧ mm ≤ 0 ∧ -9223372036854775808 ≤ mm ∧ mm ≤ 9223372036854775807)
    (fun _ mv _ => (RowKit.intOf mv).natAbs)
  case atStart => exact ⟨n, 0, none, 0, [], rfl, rfl, World.ownsRow_nil _ _ _ _, Below.refl _ _, FInv.start _, by omega, by omega, by omega⟩
  case round =>
    obtain ⟨mm, k, V, cv, l, rfl, rfl, hown, hB, hI, hm0, hm1, hm2⟩ := hrel
    have hlen := hI.out.len (by omega)
    have hkl : k = l.length := by have := hown.1; simpa [ints] using this.symm
    have hk : k ≤ 19 := by omega
    clear hlen hkl
    by_cases hz : mm = 0
    · subst hz
      have hd := Lib.hid hI.out.done0
      clear hI
      have hnum : NumV wr V k l := Reads.of_own hown
      have hcap := own_le hown
      have hisd : IsD wr V k cv n.natAbs := ⟨l, hnum, hd.out.1, hd.out.2, hcap⟩
      go_wp2_with (go_at_call 166; go_must ((with_reducible refine (rtextD true hs _ hisd (by omega)).mono ?_); rintro e w2 ⟨rfl, hb2⟩))
      go_ret
      exact ⟨rfl, hB.trans (hb2.mono hB.size)⟩
    · have hne : (mm == 0) = false := by simpa using hz
      have hst := Lib.hid (hI.out.step (by omega))
      have hmp : mm < 0 := by omega
      have ht0 : (mm.tmod 10).natAbs = mm.natAbs % 10 := by rw [Int.natAbs_tmod]; rfl
      have hu0 : (mm.tdiv 10).natAbs = mm.natAbs / 10 := by rw [Int.natAbs_tdiv]; rfl
      obtain ⟨hts, hus⟩ := tneg mm (by omega)
      obtain ⟨t, et⟩ : ∃ t, mm.tmod 10 = t := ⟨_, rfl⟩
      obtain ⟨u, eu⟩ : ∃ u, mm.tdiv 10 = u := ⟨_, rfl⟩
      rw [et] at ht0 hts
      rw [eu] at hu0 hus
      have t1 : -10 < t := by omega
      have u1 : -9223372036854775808 ≤ u := by omega
      have HT := Lib.hid ht0
      have HU := Lib.hid hu0
      have hlt : u.natAbs < mm.natAbs := by omega
      clear hz ht0 hu0
      by_cases htn : t < 0
      · go_wp2_with (at_builtin; refine wpList_append_own _ rfl (.tmp 19) (.tmp 21) 58 rfl w.heap.size 3 i0 (.int .i64 0) 1 8 Tryz.underlying58 hi hz0 hz1 hz2 rfl (by decide) (.slice V k cv) k (ints l) rfl (hown.alloc _) ⟨wr.heap.size, 0, none⟩ 1 1 [.int .i64 (-t)] rfl rfl (cell_one_new _ _ _) (by simp [Value.oneCell']) (by unfold maxLen; omega) (by omega) (by have := hB.size; simp; omega) ?_; intro v' w3 hown3 hgrow3 _; obtain ⟨V3, c3, rfl⟩ := own_slice hown3)
        go_roundw
        case rel => exact ⟨u, k + 1, V3, c3, l ++ [(-t).toNat], rfl, rfl, by rw [← ints_snoc _ _ (by omega)]; exact hown3, (hB.alloc hB.size _).grown hgrow3 (by have := hB.size; simp; omega) (own_ge hown), by rw [show (-t).toNat = mm.natAbs % 10 by have := HT.out; omega, HU.out]; exact hst, by omega, by omega, by omega⟩
        case measure => simp only [RowKit.intOf]; exact hlt
      · obtain rfl : t = 0 := by omega
        go_wp2_with (at_builtin; refine wpList_append_own _ rfl (.tmp 19) (.tmp 21) 58 rfl w.heap.size 3 i0 (.int .i64 0) 1 8 Tryz.underlying58 hi hz0 hz1 hz2 rfl (by decide) (.slice V k cv) k (ints l) rfl (hown.alloc _) ⟨wr.heap.size, 0, none⟩ 1 1 [.int .i64 (0)] rfl rfl (cell_one_new _ _ _) (by simp [Value.oneCell']) (by unfold maxLen; omega) (by omega) (by have := hB.size; simp; omega) ?_; intro v' w3 hown3 hgrow3 _; obtain ⟨V3, c3, rfl⟩ := own_slice hown3)
        go_roundw
        case rel => exact ⟨u, k + 1, V3, c3, l ++ [(0 : Int).toNat], rfl, rfl, by rw [← ints_snoc _ _ (by omega)]; exact hown3, (hB.alloc hB.size _).grown hgrow3 (by have := hB.size; simp; omega) (own_ge hown), by rw [show (0 : Int).toNat = mm.natAbs % 10 by have := HT.out; omega, HU.out]; exact hst, by omega, by omega, by omega⟩
        case measure => simp only [RowKit.intOf]; exact hlt
theorem rfromIntS {n : Int} (h : Hid (IsInt n)) (w : World) : Calls Tryz.prog 133 #[.int .i64 n] w (FromOk n w) := by
  by_cases hn : n < 0
  · exact rfrom_neg n h.out hn w
  · exact rfrom_nn n h.out (by omega) w
end Go.Proofs.YtngohpgkceedeaaGreatDoor
namespace Go.Proofs.YtngohpgkceedeaaGreatDoor
open Go Go.RowKit Go.Lib Go.Shelf

theorem rvalidB {a : ByteArray} {z : Int} (h : Is a z) (hf : Fits z) (w : World) : Calls Tryz.prog 114 #[.string a] w (BoolOk true w) :=
  (rvalid_is h hf w).mono fun _ _ h => ⟨h.1, by rw [h.2]; exact Below.refl _ _⟩
set_option maxRecDepth 100000 in
set_option maxHeartbeats 4000000 in
theorem rqvalid (q : Rat) (h : QDig 200 q) (w : World) : Calls Tryz.prog 89 #[Q q] w (BoolOk true w) := by
  have hB : Below w.heap.size w w := Below.refl _ _
  have hn := is_S q.num
  have hd := is_S (q.den : Int)
  have fn : Fits q.num := h.1
  have fd : Fits (q.den : Int) := h.2
  have i0 : Is ⟨#[48]⟩ 0 := is_zero
  have f0 : Fits 0 := fits_zero
  have C : Hid (cmpZ (q.den : Int) 0 = 1) := Lib.hid (cmpZ_gt (den_pos q))
  have G : Hid (((q.num.natAbs.gcd (q.den : Int).natAbs : Nat) : Int) = 1) := Lib.hid (by rw [rat_parts]; rfl)
  have M1 := fun W => rvalidB hn fn W
  have M2 := fun W => rvalidB hd fd W
  have M3 := fun W => rcmpS hd i0 C fd f0 W
  have M4 := fun W => rgcdS hn hd G fn fd W
  unfold StrOk at M4
  rw [S_one] at M4
  clear hn hd fn fd i0 f0 C G h
  unfold Q
  generalize S q.num = sn at *
  generalize S (q.den : Int) = sd at *
  go_enter Tryz.func89, Tryz.ntmps89
  go_wp2_with fail
  have sB := hB.size
  refine world_cut (fun X => Below w.heap.size w X ∧ Row X w.heap.size (.cells #[.string sn, .string sd] 26)) ⟨C1_hB, C2⟩ ?_
  clear hB sB
  rintro V1 ⟨hB, rq⟩
  obtain ⟨sq, cq0, cq1, fq0, fq1⟩ := Row.cells2 rq
  refine (M1 _).mono ?_
  rintro e W2 ⟨rfl, h1⟩
  clear sq cq0 cq1 fq0 fq1
  replace hB := hB.trans (h1.mono hB.size)
  replace rq := Row.below rq h1
  clear h1
  obtain ⟨sq, cq0, cq1, fq0, fq1⟩ := Row.cells2 rq
  go_wp2_with fail
  refine (M2 _).mono ?_
  rintro e W3 ⟨rfl, h1⟩
  clear sq cq0 cq1 fq0 fq1
  replace hB := hB.trans (h1.mono hB.size)
  replace rq := Row.below rq h1
  clear h1
  obtain ⟨sq, cq0, cq1, fq0, fq1⟩ := Row.cells2 rq
  go_wp2_with fail
  refine (M3 _).mono ?_
  rintro e W4 ⟨rfl, h1⟩
  clear sq cq0 cq1 fq0 fq1
  replace hB := hB.trans (h1.mono hB.size)
  replace rq := Row.below rq h1
  clear h1
  obtain ⟨sq, cq0, cq1, fq0, fq1⟩ := Row.cells2 rq
  go_wp2_with fail
  refine (M4 _).mono ?_
  rintro e W5 ⟨rfl, h1⟩
  clear sq cq0 cq1 fq0 fq1
  replace hB := hB.trans (h1.mono hB.size)
  replace rq := Row.below rq h1
  clear h1
  obtain ⟨sq, cq0, cq1, fq0, fq1⟩ := Row.cells2 rq
  go_wp2
  go_ret
  exact ⟨rfl, hB⟩
set_option maxRecDepth 100000 in
set_option maxHeartbeats 4000000 in
theorem rqmake {a b : ByteArray} {n d : Int} (ha : Is a n) (hb : Is b d) (hn : Fits n) (hd : Fits d) (hd0 : 0 < d) (w : World) : Calls Tryz.prog 57 #[.string a, .string b] w (QOk (Rat.divInt n d) w) := by
  have hB : Below w.heap.size w w := Below.refl _ _
  have i0 : Is ⟨#[48]⟩ 0 := is_zero
  have f0 : Fits 0 := fits_zero
  have nz : (b.toList == [48]) = false := by rw [hb.eq]; exact S_ne0 (by omega)
  have C : Hid (cmpZ d 0 = 1) := Lib.hid (cmpZ_gt hd0)
  obtain ⟨g, hg⟩ : ∃ g : Int, g = ((n.natAbs.gcd d.natAbs : Nat) : Int) := ⟨_, rfl⟩
  have G := Lib.hid hg.symm
  have fg : Fits g := by rw [hg]; exact gcd_fits hn hd
  have g0 : Hid (g ≠ 0) := Lib.hid (by rw [hg]; exact gcd_pos' (by omega))
  have ig := is_S g
  obtain ⟨r1, r2⟩ := reduced_parts (n := n) hd0
  rw [← hg] at r1 r2
  have R1 := Lib.hid r1.symm
  have R2 := Lib.hid r2.symm
  clear r1 r2 hg hd0
  generalize Rat.divInt n d = q at *
  have M1 := fun W => rvalidB ha hn W
  have M2 := fun W => rvalidB hb hd W
  have M3 := fun W => rcmpS hb i0 C hd f0 W
  have M4 := fun W => rgcdS ha hb G hn hd W
  have M5 := fun W => rdivS ha ig R1 (Lib.hid rfl) hn fg g0 W
  have M6 := fun W => rdivS hb ig R2 (Lib.hid rfl) hd fg g0 W
  unfold DivOk at M5 M6
  unfold StrOk at M4
  clear i0 f0 C G fg g0 ig R1 R2 ha hb hn hd
  unfold QOk Q
  go_enter Tryz.func57, Tryz.ntmps57
  go_wp2_with fail
  have sB := hB.size
  refine world_cut (fun X => Below w.heap.size w X ∧ Row X w.heap.size (.cells #[.string ⟨#[]⟩, .string ⟨#[]⟩] 26)) ⟨C1_hB, C2⟩ ?_
  clear hB sB
  rintro V1 ⟨hB, ro⟩
  obtain ⟨so, co0, co1, fo0, fo1⟩ := Row.cells2 ro
  refine (M1 _).mono ?_
  rintro e W2 ⟨rfl, h1⟩
  clear so co0 co1 fo0 fo1
  replace hB := hB.trans (h1.mono hB.size)
  replace ro := Row.below ro h1
  clear h1
  obtain ⟨so, co0, co1, fo0, fo1⟩ := Row.cells2 ro
  go_wp2_with fail
  refine (M2 _).mono ?_
  rintro e W3 ⟨rfl, h1⟩
  clear so co0 co1 fo0 fo1
  replace hB := hB.trans (h1.mono hB.size)
  replace ro := Row.below ro h1
  clear h1
  obtain ⟨so, co0, co1, fo0, fo1⟩ := Row.cells2 ro
  go_wp2_with fail
  refine (M3 _).mono ?_
  rintro e W4 ⟨rfl, h1⟩
  clear so co0 co1 fo0 fo1
  replace hB := hB.trans (h1.mono hB.size)
  replace ro := Row.below ro h1
  clear h1
  obtain ⟨so, co0, co1, fo0, fo1⟩ := Row.cells2 ro
  go_wp2_with fail
  refine (M4 _).mono ?_
  rintro e W5 ⟨rfl, h1⟩
  clear so co0 co1 fo0 fo1
  replace hB := hB.trans (h1.mono hB.size)
  replace ro := Row.below ro h1
  clear h1
  obtain ⟨so, co0, co1, fo0, fo1⟩ := Row.cells2 ro
  go_wp2_with fail
  refine (M5 _).mono ?_
  rintro e W6 ⟨rfl, h1⟩
  clear so co0 co1 fo0 fo1
  replace hB := hB.trans (h1.mono hB.size)
  replace ro := Row.below ro h1
  clear h1
  obtain ⟨so, co0, co1, fo0, fo1⟩ := Row.cells2 ro
  go_wp2_with fail
  refine (M6 _).mono ?_
  rintro e W7 ⟨rfl, h1⟩
  clear so co0 co1 fo0 fo1
  replace hB := hB.trans (h1.mono hB.size)
  replace ro := Row.below ro h1
  clear h1
  obtain ⟨so, co0, co1, fo0, fo1⟩ := Row.cells2 ro
  go_wp2
  have sB := hB.size
  refine post_cut (fun X => Below w.heap.size w X ∧ Row X w.heap.size (.cells #[.string (S q.num), .string (S (q.den : Int))] 26)) ⟨C1_hB, C3_ro⟩ ?_
  clear ro
  clear so co0 co1 fo0 fo1
  clear hB sB
  rintro V8 ⟨hB, ro⟩
  obtain ⟨so, co0, co1, fo0, fo1⟩ := Row.cells2 ro
  refine bodyPost_ret (v := .tuple #[.agg #[.string (S q.num), .string (S (q.den : Int))], .int .i64 0]) ?res rfl ⟨rfl, hB⟩
  case res => simp [results, Tryz.results57, go_sem, co0, co1]
set_option maxRecDepth 100000 in
set_option maxHeartbeats 4000000 in
theorem rqof {n d : Int} (hn : IsInt n) (hd : IsInt d) (hd0 : 0 < d) (w : World) : Calls Tryz.prog 66 #[.int .i64 n, .int .i64 d] w (QOk (Rat.divInt n d) w) := by
  have hB : Below w.heap.size w w := Below.refl _ _
  have M1 := fun W => rfromIntS (Lib.hid hn) W
  have M2 := fun W => rfromIntS (Lib.hid hd) W
  have M3 := fun W => rqmake (is_S n) (is_S d) ((dig_int hn).fits (by omega)) ((dig_int hd).fits (by omega)) hd0 W
  unfold FromOk at M1 M2
  unfold QOk at *
  generalize Rat.divInt n d = q at *
  clear hn hd hd0
  unfold Q at *
  go_enter Tryz.func66, Tryz.ntmps66
  go_wp2_with fail
  have sB := hB.size
  refine world_cut (fun X => Below w.heap.size w X ∧ Row X w.heap.size (.cells #[.string ⟨#[]⟩, .string ⟨#[]⟩] 26)) ⟨C1_hB, C2⟩ ?_
  clear hB sB
  rintro V1 ⟨hB, ro⟩
  obtain ⟨so, co0, co1, fo0, fo1⟩ := Row.cells2 ro
  refine (M1 _).mono ?_
  rintro e W2 ⟨rfl, h1⟩
  clear so co0 co1 fo0 fo1
  replace hB := hB.trans (h1.mono hB.size)
  replace ro := Row.below ro h1
  clear h1
  obtain ⟨so, co0, co1, fo0, fo1⟩ := Row.cells2 ro
  go_wp2_with fail
  refine (M2 _).mono ?_
  rintro e W3 ⟨rfl, h1⟩
  clear so co0 co1 fo0 fo1
  replace hB := hB.trans (h1.mono hB.size)
  replace ro := Row.below ro h1
  clear h1
  obtain ⟨so, co0, co1, fo0, fo1⟩ := Row.cells2 ro
  go_wp2_with fail
  refine (M3 _).mono ?_
  rintro e W4 ⟨rfl, h1⟩
  clear so co0 co1 fo0 fo1
  replace hB := hB.trans (h1.mono hB.size)
  replace ro := Row.below ro h1
  clear h1
  obtain ⟨so, co0, co1, fo0, fo1⟩ := Row.cells2 ro
  go_wp2
  have sB := hB.size
  refine post_cut (fun X => Below w.heap.size w X ∧ Row X w.heap.size (.cells #[.string (S q.num), .string (S (q.den : Int))] 26)) ⟨C1_hB, C3_ro⟩ ?_
  clear ro
  clear so co0 co1 fo0 fo1
  clear hB sB
  rintro V5 ⟨hB, ro⟩
  obtain ⟨so, co0, co1, fo0, fo1⟩ := Row.cells2 ro
  refine bodyPost_ret (v := .tuple #[.agg #[.string (S q.num), .string (S (q.den : Int))], .int .i64 0]) ?res rfl ⟨rfl, hB⟩
  case res => simp [results, Tryz.results66, go_sem, co0, co1]
end Go.Proofs.YtngohpgkceedeaaGreatDoor
