/-
  The reference implementation's Long.
-/
import Derived.Test.YtngohpgkceedeaaGreatDoorLongPlain
import Derived.Test.YtngohpgkceedeaaGreatDoorRQ2
import Derived.Test.YtngohpgkceedeaaGreatDoorShort
import Derived.Laws.BytesArg
import Derived.Deep.CutBlock
import Derived.Deep.DeepCutAuto
set_option linter.unusedSimpArgs false
set_option linter.unusedVariables false
namespace Go.Proofs.YtngohpgkceedeaaGreatDoor
open Go Go.RowKit Go.Lib Go.Shelf

set_option maxRecDepth 100000 in
set_option maxHeartbeats 4000000 in
theorem pick4b (c n : Int) (hc : IsInt c) (hn : 0 < n) (hn2 : n ≤ 2000000000) (w : World) : Calls Tryz.prog 56 #[.int .i64 c, .int .i64 n] w fun e w' => (∃ r : Nat, e = .returned (.int .i64 (r : Int)) ∧ (r : Int) < n) ∧ w' = w := by
  obtain ⟨c0, c1⟩ := hc
  have nz : ¬ n = 0 := by omega
  by_cases h : c < 0
  · have e : -((c + 1).tmod n) = (-(c + 1)) % n := by rw [← Int.neg_tmod, Int.tmod_eq_emod_of_nonneg (by omega)]
    have b0 := Int.emod_nonneg (-(c + 1)) nz
    have b1 := Int.emod_lt_of_pos (-(c + 1)) hn
    have E := Lib.hid e
    have B := Lib.hid (And.intro b0 b1)
    clear e b0 b1
    go_enter Tryz.func56, Tryz.ntmps56
    go_wp2
    go_ret
    obtain ⟨b0, b1⟩ := B.out
    refine ⟨⟨((-(c + 1)) % n).toNat, ?_, by omega⟩, rfl⟩
    rw [Int.toNat_of_nonneg b0, ← E.out]
    rfl
  · have b0 := Int.emod_nonneg c nz
    have b1 := Int.emod_lt_of_pos c hn
    have B := Lib.hid (And.intro b0 b1)
    clear b0 b1
    go_enter Tryz.func56, Tryz.ntmps56
    go_wp2
    go_ret
    obtain ⟨b0, b1⟩ := B.out
    refine ⟨⟨(c % n).toNat, ?_, by omega⟩, rfl⟩
    rw [Int.toNat_of_nonneg b0]
    rfl
theorem npick4 (c n : Int) (hc : IsInt c) (hn : 0 < n) (hn2 : n ≤ 2000000000) (w : World) : Calls Tryz.prog 56 #[.int .i64 c, .int .i64 n] w fun e w' => ∃ p : Nat, (p : Int) < n ∧ e = .returned (.int .i64 (p : Int)) ∧ Below w.heap.size w w' :=
  (pick4b c n hc hn hn2 w).mono fun e w' ⟨⟨r, h1, h2⟩, h3⟩ => ⟨r, h2, h1, h3 ▸ Below.refl _ _⟩
def pv (c n : Int) : Nat := if c < 0 then ((-(c + 1)) % n).toNat else (c % n).toNat
theorem pv_lt (c n : Int) (hn : 0 < n) : (pv c n : Int) < n := by
  have b0 := Int.emod_nonneg (-(c + 1)) (show n ≠ 0 by omega)
  have b1 := Int.emod_lt_of_pos (-(c + 1)) hn
  have b2 := Int.emod_nonneg c (show n ≠ 0 by omega)
  have b3 := Int.emod_lt_of_pos c hn
  unfold pv; split <;> omega
set_option maxRecDepth 100000 in
set_option maxHeartbeats 4000000 in
theorem pick4w (c n : Int) (hc : IsInt c) (hn : 0 < n) (hn2 : n ≤ 1000000) (w : World) : Calls Tryz.prog 56 #[.int .i64 c, .int .i64 n] w fun e w' => e = .returned (.int .i64 (pv c n : Int)) ∧ w' = w := by
  obtain ⟨c0, c1⟩ := hc
  have nz : ¬ n = 0 := by omega
  by_cases h : c < 0
  · have e : -((c + 1).tmod n) = (-(c + 1)) % n := by rw [← Int.neg_tmod, Int.tmod_eq_emod_of_nonneg (by omega)]
    have b0 := Int.emod_nonneg (-(c + 1)) nz
    have b1 := Int.emod_lt_of_pos (-(c + 1)) hn
    have E := Lib.hid e
    have B := Lib.hid (And.intro b0 b1)
    clear e b0 b1
    go_enter Tryz.func56, Tryz.ntmps56
    go_wp2
    go_ret
    obtain ⟨b0, b1⟩ := B.out
    refine ⟨?_, rfl⟩
    unfold pv
    rw [if_pos h]
    rw [Int.toNat_of_nonneg b0, ← E.out]
    rfl
  · have b0 := Int.emod_nonneg c nz
    have b1 := Int.emod_lt_of_pos c hn
    have B := Lib.hid (And.intro b0 b1)
    clear b0 b1
    go_enter Tryz.func56, Tryz.ntmps56
    go_wp2
    go_ret
    obtain ⟨b0, b1⟩ := B.out
    refine ⟨?_, rfl⟩
    unfold pv
    rw [if_neg (by omega)]
    rw [Int.toNat_of_nonneg b0]
    rfl
theorem pick4v (c : Int) (hc : IsInt c) (w : World) : Calls Tryz.prog 56 #[.int .i64 c, .int .i64 2] w fun e w' => e = .returned (.int .i64 (pv c 2 : Int)) ∧ Below w.heap.size w w' :=
  (pick4w c 2 hc (by omega) (by omega) w).mono fun e w' ⟨h1, h3⟩ => ⟨h1, h3 ▸ Below.refl _ _⟩
theorem long_make {tn t2 : ByteArray} {z : Int} {d : Nat} (hz : Is tn z ∧ Dig 100 z) (hd : 0 < d ∧ d < 10 ^ 100 ∧ Is t2 (d : Int)) (w : World) : Calls Tryz.prog 57 #[.string tn, .string t2] w fun e w' => ∃ q : Rat, QDig 100 q ∧ e = .returned (.tuple #[.agg #[.string (S q.num), .string (S (q.den : Int))], .int .i64 0]) ∧ Below w.heap.size w w' := by
  have h1 : Dig 100 (d : Int) := by unfold Dig; rw [Int.natAbs_natCast]; exact hd.2.1
  refine (rqmake hz.1 hd.2.2 (hz.2.mono (show 100 ≤ 200 by omega)) (h1.mono (show 100 ≤ 200 by omega)) (by omega) w).mono fun e w' h => ?_
  exact ⟨Rat.divInt z d, QDig.ofInt (by omega) hz.2 h1, h.1, h.2⟩
theorem is_minus' {z : Int} (h : 0 < z) : Is ((⟨#[45]⟩ : ByteArray) ++ S z) (-z) := by
  have e : ((⟨#[45]⟩ : ByteArray) ++ S z).data.toList = 45 :: itoa z := by
    rw [ByteArray.data_append]
    unfold S
    simp
  unfold Is
  obtain ⟨u, rfl⟩ : ∃ u : Nat, z = u := ⟨z.natAbs, by omega⟩
  rw [e, itoa_nn, itoa_ng u (by omega)]
theorem long_size {t : ByteArray} {n : Nat} (h : Is t (n : Int)) (hn : n < 10 ^ 100) : t.size ≤ 201 := by
  have hd : Dig 100 (n : Int) := by unfold Dig; rw [Int.natAbs_natCast]; exact hn
  rw [h.eq]; exact S_size (hd.mono (show 100 ≤ 200 by omega))
/-- The numerator: a minus sign in front, where one is asked for and it is not 0. -/
theorem long_num {t0 : ByteArray} {n0 p : Nat} (h : Is t0 (n0 : Int)) (hn : n0 < 10 ^ 100) (hp : (p : Int) < 2) : ∃ (t : ByteArray) (z : Int), (Is t z ∧ Dig 100 z) ∧ (p = 0 ∧ (t0.toList == [48]) = false ∧ t = (⟨#[45]⟩ : ByteArray) ++ t0 ∨ p = 0 ∧ (t0.toList == [48]) = true ∧ t = t0 ∨ p = 1 ∧ t = t0) := by
  have hd : Dig 100 (n0 : Int) := by unfold Dig; rw [Int.natAbs_natCast]; exact hn
  rcases (show p = 0 ∨ p = 1 by omega) with rfl | rfl
  · rcases Nat.eq_zero_or_pos n0 with h0 | h0
    · subst h0
      exact ⟨t0, 0, ⟨h, hd⟩, .inr (.inl ⟨rfl, by rw [h.eq]; exact S_eq0 rfl, rfl⟩)⟩
    · refine ⟨_, -(n0 : Int), ⟨?_, by unfold Dig at *; omega⟩, .inl ⟨rfl, by rw [h.eq]; exact S_ne0 (by omega), rfl⟩⟩
      have := is_minus' (z := (n0 : Int)) (by omega)
      rwa [← h.eq] at this
  · exact ⟨t0, n0, ⟨h, hd⟩, .inr (.inr ⟨rfl, rfl⟩)⟩
theorem str_snoc (l : List UInt8) (x : UInt8) : (⟨l.toArray⟩ : ByteArray) ++ ⟨#[x]⟩ = ⟨(l ++ [x]).toArray⟩ := by
  apply ByteArray.ext
  rw [ByteArray.data_append]
  simp
theorem byte_ne {a : UInt8} (h : a ≠ 48) : ((a.toNat : Int) == 48) = false := by
  have : ¬ (a.toNat : Int) = 48 := fun e => h (UInt8.toNat_inj.1 (by show a.toNat = 48; omega))
  simpa using this
/-- The denominator: 7 for 0. -/
theorem long_den {t1 : ByteArray} {n1 : Nat} (h : Is t1 (n1 : Int)) (hn : n1 < 10 ^ 100) : ∃ (t2 : ByteArray) (d : Nat), 0 < d ∧ d < 10 ^ 100 ∧ Is t2 (d : Int) ∧ ((t1.toList == [48]) = true ∧ t2 = ⟨#[55]⟩ ∨ (t1.toList == [48]) = false ∧ t2 = t1) := by
  have hz : S 0 = ⟨#[48]⟩ := S_zero
  rcases Nat.eq_zero_or_pos n1 with h0 | h0
  · subst h0
    have e : t1 = ⟨#[48]⟩ := by rw [h.eq]; exact hz
    exact ⟨⟨#[55]⟩, 7, by decide, by decide, is_lit (by decide) (by decide), .inl ⟨by rw [e, ← hz, S_list, is_zero.symm]; simp, rfl⟩⟩
  · refine ⟨t1, n1, h0, hn, h, .inr ⟨?_, rfl⟩⟩
    rw [h.eq]
    exact S_ne0 (by omega)
theorem lcg (c : Nat) (hc : (c : Int) < 2147483647) : ∃ m : Nat, m < 2147483647 ∧ IntKind.i64.wrap ((c : Int) * 48271) = (c : Int) * 48271 ∧ IntKind.i64.wrap ((c : Int) * 48271 + 11) = (c : Int) * 48271 + 11 ∧ ∀ x : Nat, x = c → ((x : Int) * 48271 + 11).tmod 2147483647 = (m : Int) := by
  refine ⟨(((c : Int) * 48271 + 11) % 2147483647).toNat, by omega, by rw [IntKind.wrap_i64]; omega, by rw [IntKind.wrap_i64]; omega, ?_⟩
  intro x hx
  rw [hx, Int.tmod_eq_emod_of_nonneg (by omega)]
  omega
theorem ldigit (m : Nat) (hm : m < 2147483647) : ∃ e d t : Nat, d < 10 ∧ t = 48 + d ∧ t < 256 ∧ wrap64 ((m : Int) / 65536) = (e : Int) ∧ (e : Int).tmod 10 = (d : Int) ∧ wrap64 (48 + (d : Int)) = (t : Int) ∧ (t : Int) % 256 = (t : Int) := by
  refine ⟨((m : Int) / 65536).toNat, ((m : Int) / 65536 % 10).toNat, 48 + ((m : Int) / 65536 % 10).toNat, by omega, rfl, by omega, by unfold wrap64; omega, ?_, by unfold wrap64; omega, by omega⟩
  rw [Int.tmod_eq_emod_of_nonneg (by omega)]
  omega
/-- A slice of one byte that has just been made, as a string. -/
theorem conv_one (w : World) (b : Nat) (hb : b < 256) : (convert 87 9 (.slice (some ⟨w.heap.size, 0, none⟩) 1 1)).run Tryz.prog (w.alloc (.cells #[.int .u8 ((b : Nat) : Int)] 5)) = .ok (.string ⟨#[UInt8.ofNat b]⟩) (w.alloc (.cells #[.int .u8 ((b : Nat) : Int)] 5)) := by
  have h := run_convert_bytes_arg (P := Tryz.prog) (w.alloc (.cells #[.int .u8 ((b : Nat) : Int)] 5)) 87 5 Tryz.underlying87 Tryz.underlying5 w.heap.size 0 1 1 [(b : Int)] rfl (fun i hi => by
    obtain rfl : i = 0 := by omega
    exact (cell_one_new _ _ _ 0 _ rfl)) 9 Tryz.underlying9
  rw [h]
  congr 2
set_option maxRecDepth 100000 in
set_option maxHeartbeats 16000000 in
theorem rlong (x0 x1 x2 x3 : Int) (hx : IsInt x0 ∧ IsInt x1 ∧ IsInt x2 ∧ IsInt x3) (w : World) : Calls Tryz.prog 14 #[.agg #[.int .i64 x0, .int .i64 x1, .int .i64 x2, .int .i64 x3]] w (QSome (QDig 100) w) := by
  have hB : Below w.heap.size w w := Below.refl _ _
  have PK := fun (c : Int) (hc : IsInt c) W => npick4 c 100 hc (by omega) (by omega) W
  have PC := fun (c : Int) (hc : IsInt c) W => npick4 c 1000000007 hc (by omega) (by omega) W
  have P2 := fun (c : Int) (hc : IsInt c) W => npick4 c 2 hc (by omega) (by omega) W
  have CV := fun W (b : Nat) (h : b < 256) => conv_one W b h
  go_enter Tryz.func14, Tryz.ntmps14
  go_wp2_with fail
  refine wp_loop_unroll (loopWp_step ?_)
  go_wp2_with fail
  have d0_o : w.heap.size ≤ w.heap.size + 1 := by have := hB.size; omega
  have d0_out : w.heap.size ≤ w.heap.size + 1 + 1 := by have := hB.size; omega
  have sB := hB.size
  refine world_cut (fun X => Below w.heap.size w X ∧ Row X w.heap.size (.cells #[.int .i64 x0, .int .i64 x1, .int .i64 x2, .int .i64 x3] 22) ∧ Row X (w.heap.size + 1) (.cells #[.string ⟨#[]⟩, .string ⟨#[]⟩] 26) ∧ Row X (w.heap.size + 1 + 1) (.cells #[.string ⟨#[]⟩, .string ⟨#[]⟩] 86)) ⟨BW, RW, RW, RW⟩ ?_
  clear hB sB
  rintro V1 ⟨hB, rx, ro, rout⟩
  have Fx : ∀ X, Row X w.heap.size (.cells #[.int .i64 x0, .int .i64 x1, .int .i64 x2, .int .i64 x3] 22) → (w.heap.size < X.heap.size ∧ X.cell? ⟨w.heap.size, 0, none⟩ = some (.int .i64 x0) ∧ X.cell? ⟨w.heap.size, 1, none⟩ = some (.int .i64 x1) ∧ X.cell? ⟨w.heap.size, 2, none⟩ = some (.int .i64 x2) ∧ X.cell? ⟨w.heap.size, 3, none⟩ = some (.int .i64 x3)) := fun X h => ⟨h.1, Row.cell_lit h 0 rfl, Row.cell_lit h 1 rfl, Row.cell_lit h 2 rfl, Row.cell_lit h 3 rfl⟩
  obtain ⟨sx, cx0, cx1, cx2, cx3⟩ := Fx _ rx
  have Fo : ∀ X, Row X (w.heap.size + 1) (.cells #[.string ⟨#[]⟩, .string ⟨#[]⟩] 26) → (w.heap.size + 1 < X.heap.size ∧ X.cell? ⟨w.heap.size + 1, 0, none⟩ = some (.string ⟨#[]⟩) ∧ X.cell? ⟨w.heap.size + 1, 1, none⟩ = some (.string ⟨#[]⟩) ∧ X.frozen? ⟨w.heap.size + 1, 0, none⟩ = false ∧ X.frozen? ⟨w.heap.size + 1, 1, none⟩ = false) := fun X h => ⟨h.1, Row.cell_lit h 0 rfl, Row.cell_lit h 1 rfl, frozen_of_row _ _ 0 _ _ h.2, frozen_of_row _ _ 1 _ _ h.2⟩
  obtain ⟨so, co0, co1, fo0, fo1⟩ := Fo _ ro
  have Fout : ∀ X, Row X (w.heap.size + 1 + 1) (.cells #[.string ⟨#[]⟩, .string ⟨#[]⟩] 86) → (w.heap.size + 1 + 1 < X.heap.size ∧ X.cell? ⟨w.heap.size + 1 + 1, 0, none⟩ = some (.string ⟨#[]⟩) ∧ X.cell? ⟨w.heap.size + 1 + 1, 1, none⟩ = some (.string ⟨#[]⟩) ∧ X.frozen? ⟨w.heap.size + 1 + 1, 0, none⟩ = false ∧ X.frozen? ⟨w.heap.size + 1 + 1, 1, none⟩ = false) := fun X h => ⟨h.1, Row.cell_lit h 0 rfl, Row.cell_lit h 1 rfl, frozen_of_row _ _ 0 _ _ h.2, frozen_of_row _ _ 1 _ _ h.2⟩
  obtain ⟨sout, cout0, cout1, fout0, fout1⟩ := Fout _ rout
  refine (PK x1 hx.2.1 _).mono ?_
  rintro e W2 ⟨p0, hp0, rfl, h1⟩
  clear sx cx0 cx1 cx2 cx3
  clear so co0 co1 fo0 fo1
  clear sout cout0 cout1 fout0 fout1
  replace hB := hB.trans (h1.mono hB.size)
  replace rx := Row.below rx h1
  replace ro := Row.below ro h1
  replace rout := Row.below rout h1
  clear h1
  obtain ⟨sx, cx0, cx1, cx2, cx3⟩ := Fx _ rx
  obtain ⟨so, co0, co1, fo0, fo1⟩ := Fo _ ro
  obtain ⟨sout, cout0, cout1, fout0, fout1⟩ := Fout _ rout
  have WP0 : IntKind.i64.wrap (1 + (p0 : Int)) = 1 + (p0 : Int) := by rw [IntKind.wrap_i64]; omega
  go_wp2_with fail
  refine (PC x0 hx.1 _).mono ?_
  rintro e W3 ⟨c0, hc0, rfl, h1⟩
  clear sx cx0 cx1 cx2 cx3
  clear so co0 co1 fo0 fo1
  clear sout cout0 cout1 fout0 fout1
  replace hB := hB.trans (h1.mono hB.size)
  replace rx := Row.below rx h1
  replace ro := Row.below ro h1
  replace rout := Row.below rout h1
  clear h1
  obtain ⟨sx, cx0, cx1, cx2, cx3⟩ := Fx _ rx
  obtain ⟨so, co0, co1, fo0, fo1⟩ := Fo _ ro
  obtain ⟨sout, cout0, cout1, fout0, fout1⟩ := Fout _ rout
  go_upto_block 2 with fail
  go_cut [6] (fun s6 W => ∃ l : List UInt8, s6 = .string ⟨l.toArray⟩ ∧ Raw 100 l ∧ Below w.heap.size w W ∧ Row W w.heap.size (.cells #[.int .i64 x0, .int .i64 x1, .int .i64 x2, .int .i64 x3] 22) ∧ Row W (w.heap.size + 1) (.cells #[.string ⟨#[]⟩, .string ⟨#[]⟩] 26) ∧ Row W (w.heap.size + 1 + 1) (.cells #[.string ⟨#[]⟩, .string ⟨#[]⟩] 86))
  case first =>
    go_wp2_with fail
    go_loopw [6, 7] (fun v6 v7 wr => ∃ (l : List UInt8) (c : Nat), v6 = .string ⟨l.toArray⟩ ∧ v7 = .int .i64 (c : Int) ∧ l.length ≤ 1 + p0 ∧ Hid ((c : Int) < 2147483647) ∧ Hid (∀ b ∈ l, isDig b = true) ∧ Below w.heap.size w wr ∧ Row wr w.heap.size (.cells #[.int .i64 x0, .int .i64 x1, .int .i64 x2, .int .i64 x3] 22) ∧ Row wr (w.heap.size + 1) (.cells #[.string ⟨#[]⟩, .string ⟨#[]⟩] 26) ∧ Row wr (w.heap.size + 1 + 1) (.cells #[.string ⟨#[]⟩, .string ⟨#[]⟩] 86)) (fun v6 _ _ => match v6 with | .string s => 1 + p0 - s.size | _ => 0)
    case atStart => exact ⟨[], c0, rfl, rfl, by simp, Lib.hid (by omega), Lib.hid (by simp), hB, rx, ro, rout⟩
    case round =>
      clear sx cx0 cx1 cx2 cx3
      clear so co0 co1 fo0 fo1
      clear sout cout0 cout1 fout0 fout1
      clear hB rx ro rout
      obtain ⟨l, c, rfl, rfl, hl, hc, hd, hB, rx, ro, rout⟩ := hrel
      have sz : (⟨l.toArray⟩ : ByteArray).size = l.length := by simp [ByteArray.size]
      rcases Nat.lt_or_ge l.length (1 + p0) with hlt | hge
      · obtain ⟨m, hm2, q1, q2, q3⟩ := lcg c hc.out
        obtain ⟨e, d, t, hd10, ht, h256, q4, q5, q6, q7⟩ := ldigit m hm2
        have CVb := CV wr t h256
        have HT := Lib.hid ht
        clear ht h256
        have HM := Lib.hid hm2
        have hdec : decide ((l.length : Int) < 1 + (p0 : Int)) = true := decide_eq_true (by omega)
        have hs2 : l.length ≤ 100 := by omega
        have HLT := Lib.hid hlt
        have HD := Lib.hid hd10
        clear hm2 hc CV PK PC P2 hlt hl hd10
        have sB := hB.size
        go_wp2
        go_roundw
        case rel => exact ⟨l ++ [UInt8.ofNat t], m, by rw [str_snoc], rfl, by have := HLT.out; simp; omega, Lib.hid (by have := HM.out; omega), Lib.hid (fun b hb => by rcases List.mem_append.1 hb with h | h; exact hd.out b h; simp at h; subst h; rw [HT.out]; exact isDig_ofNat d HD.out), BW, RW, RW, RW⟩
        case measure => have := HLT.out; simp [ByteArray.size]; omega
      · have hle : l.length = 1 + p0 := by omega
        have hdec : decide ((l.length : Int) < 1 + (p0 : Int)) = false := decide_eq_false (by omega)
        have HLE := Lib.hid hle
        clear hl hge hle CV PK PC P2 hc
        go_wp2
        have hle := HLE.out
        go_meet
        case rel => exact ⟨l, rfl, ⟨fun h => by rw [h] at hle; simp at hle; omega, by omega, hd.out⟩, BW, RW, RW, RW⟩
  case rest =>
    obtain ⟨l, rfl, hraw, hB, rx, ro, rout⟩ := hcut
    obtain ⟨sx, cx0, cx1, cx2, cx3⟩ := Fx _ rx
    obtain ⟨so, co0, co1, fo0, fo1⟩ := Fo _ ro
    obtain ⟨sout, cout0, cout1, fout0, fout1⟩ := Fout _ rout
    have hraw := Lib.hid hraw
    clear hc0
    go_upto_block 4 with fail
    go_cut [6] (fun s6 W => ∃ (t : ByteArray) (n : Nat), s6 = .string t ∧ Is t (n : Int) ∧ n < 10 ^ 100 ∧ Below w.heap.size w W ∧ Row W w.heap.size (.cells #[.int .i64 x0, .int .i64 x1, .int .i64 x2, .int .i64 x3] 22) ∧ Row W (w.heap.size + 1) (.cells #[.string ⟨#[]⟩, .string ⟨#[]⟩] 26) ∧ Row W (w.heap.size + 1 + 1) (.cells #[.string ⟨#[]⟩, .string ⟨#[]⟩] 86))
    case first =>
      go_wp2_with fail
      go_loopw [6] (fun v6 wr => ∃ l : List UInt8, v6 = .string ⟨l.toArray⟩ ∧ Hid (Raw 100 l) ∧ Below w.heap.size w wr ∧ Row wr w.heap.size (.cells #[.int .i64 x0, .int .i64 x1, .int .i64 x2, .int .i64 x3] 22) ∧ Row wr (w.heap.size + 1) (.cells #[.string ⟨#[]⟩, .string ⟨#[]⟩] 26) ∧ Row wr (w.heap.size + 1 + 1) (.cells #[.string ⟨#[]⟩, .string ⟨#[]⟩] 86)) (fun v6 _ => match v6 with | .string s => s.size | _ => 0)
      case atStart => exact ⟨l, rfl, hraw, hB, rx, ro, rout⟩
      case round =>
        clear sx cx0 cx1 cx2 cx3
        clear so co0 co1 fo0 fo1
        clear sout cout0 cout1 fout0 fout1
        clear hB rx ro rout
        obtain ⟨m, rfl, hm, hB, rx, ro, rout⟩ := hrel
        have sz : (⟨m.toArray⟩ : ByteArray).size = m.length := by simp [ByteArray.size]
        rcases m with _ | ⟨a, m⟩
        · exact absurd rfl hm.out.1
        rcases m with _ | ⟨b, m⟩
        · go_wp2
          go_meet
          case rel => obtain ⟨n, hn, hl⟩ := raw_is hm.out (by omega) (.inl rfl); exact ⟨_, n, rfl, hn, hl, BW, RW, RW, RW⟩
        have h0 : (⟨(a :: b :: m).toArray⟩ : ByteArray).size = m.length + 2 := by simp [ByteArray.size]
        have hml : m.length ≤ 98 := by have := hm.out.2.1; simp at this; omega
        clear sz
        by_cases ha : a = 48
        · subst ha
          go_wp2
          go_roundw
          case rel => exact ⟨b :: m, by rw [ext_take _ _ _ (by simp)]; rfl, Lib.hid ⟨by simp, by simp; omega, fun c hc => hm.out.2.2 c (List.mem_cons_of_mem _ hc)⟩, BW, RW, RW, RW⟩
          case measure => simp [ByteArray.size]
        · have ha2 := byte_ne ha
          have e0 : (⟨(a :: b :: m).toArray⟩ : ByteArray)[0]'(by simp [ByteArray.size]) = a := rfl
          go_wp2
          go_meet
          case rel => obtain ⟨n, hn, hl⟩ := raw_is hm.out (by omega) (.inr (by simpa using ha)); exact ⟨_, n, rfl, hn, hl, BW, RW, RW, RW⟩
    case rest =>
      clear sx cx0 cx1 cx2 cx3
      clear so co0 co1 fo0 fo1
      clear sout cout0 cout1 fout0 fout1
      clear hraw hB rx ro rout
      obtain ⟨t0, n0, rfl, it0, ln0, hB, rx, ro, rout⟩ := hcut
      have it0 := Lib.hid it0
      have ln0 := Lib.hid ln0
      obtain ⟨sx, cx0, cx1, cx2, cx3⟩ := Fx _ rx
      obtain ⟨so, co0, co1, fo0, fo1⟩ := Fo _ ro
      obtain ⟨sout, cout0, cout1, fout0, fout1⟩ := Fout _ rout
      go_wp2_with fail
      refine loopWp_step ?_
      go_wp2_with fail
      have sB := hB.size
      refine world_cut (fun X => Below w.heap.size w X ∧ Row X w.heap.size (.cells #[.int .i64 x0, .int .i64 x1, .int .i64 x2, .int .i64 x3] 22) ∧ Row X (w.heap.size + 1) (.cells #[.string ⟨#[]⟩, .string ⟨#[]⟩] 26) ∧ Row X (w.heap.size + 1 + 1) (.cells #[.string t0, .string ⟨#[]⟩] 86)) ⟨BW, RW, RW, RW⟩ ?_
      clear rx
      clear sx cx0 cx1 cx2 cx3
      clear ro
      clear so co0 co1 fo0 fo1
      clear rout
      clear sout cout0 cout1 fout0 fout1
      clear hB sB
      rintro V4 ⟨hB, rx, ro, rout⟩
      obtain ⟨sx, cx0, cx1, cx2, cx3⟩ := Fx _ rx
      obtain ⟨so, co0, co1, fo0, fo1⟩ := Fo _ ro
      clear Fout
      have Fout : ∀ X, Row X (w.heap.size + 1 + 1) (.cells #[.string t0, .string ⟨#[]⟩] 86) → (w.heap.size + 1 + 1 < X.heap.size ∧ X.cell? ⟨w.heap.size + 1 + 1, 0, none⟩ = some (.string t0) ∧ X.cell? ⟨w.heap.size + 1 + 1, 1, none⟩ = some (.string ⟨#[]⟩) ∧ X.frozen? ⟨w.heap.size + 1 + 1, 0, none⟩ = false ∧ X.frozen? ⟨w.heap.size + 1 + 1, 1, none⟩ = false) := fun X h => ⟨h.1, Row.cell_lit h 0 rfl, Row.cell_lit h 1 rfl, frozen_of_row _ _ 0 _ _ h.2, frozen_of_row _ _ 1 _ _ h.2⟩
      obtain ⟨sout, cout0, cout1, fout0, fout1⟩ := Fout _ rout
      refine (PK x3 hx.2.2.2 _).mono ?_
      rintro e W5 ⟨p1, hp1, rfl, h1⟩
      clear sx cx0 cx1 cx2 cx3
      clear so co0 co1 fo0 fo1
      clear sout cout0 cout1 fout0 fout1
      replace hB := hB.trans (h1.mono hB.size)
      replace rx := Row.below rx h1
      replace ro := Row.below ro h1
      replace rout := Row.below rout h1
      clear h1
      obtain ⟨sx, cx0, cx1, cx2, cx3⟩ := Fx _ rx
      obtain ⟨so, co0, co1, fo0, fo1⟩ := Fo _ ro
      obtain ⟨sout, cout0, cout1, fout0, fout1⟩ := Fout _ rout
      have WP1 : IntKind.i64.wrap (1 + (p1 : Int)) = 1 + (p1 : Int) := by rw [IntKind.wrap_i64]; omega
      go_wp2_with fail
      refine (PC x2 hx.2.2.1 _).mono ?_
      rintro e W6 ⟨c1, hc1, rfl, h1⟩
      clear sx cx0 cx1 cx2 cx3
      clear so co0 co1 fo0 fo1
      clear sout cout0 cout1 fout0 fout1
      replace hB := hB.trans (h1.mono hB.size)
      replace rx := Row.below rx h1
      replace ro := Row.below ro h1
      replace rout := Row.below rout h1
      clear h1
      obtain ⟨sx, cx0, cx1, cx2, cx3⟩ := Fx _ rx
      obtain ⟨so, co0, co1, fo0, fo1⟩ := Fo _ ro
      obtain ⟨sout, cout0, cout1, fout0, fout1⟩ := Fout _ rout
      go_upto_block 2 with fail
      go_cut [6] (fun s6 W => ∃ l : List UInt8, s6 = .string ⟨l.toArray⟩ ∧ Raw 100 l ∧ Below w.heap.size w W ∧ Row W w.heap.size (.cells #[.int .i64 x0, .int .i64 x1, .int .i64 x2, .int .i64 x3] 22) ∧ Row W (w.heap.size + 1) (.cells #[.string ⟨#[]⟩, .string ⟨#[]⟩] 26) ∧ Row W (w.heap.size + 1 + 1) (.cells #[.string t0, .string ⟨#[]⟩] 86))
      case first =>
        go_wp2_with fail
        go_loopw [6, 7] (fun v6 v7 wr => ∃ (l : List UInt8) (c : Nat), v6 = .string ⟨l.toArray⟩ ∧ v7 = .int .i64 (c : Int) ∧ l.length ≤ 1 + p1 ∧ Hid ((c : Int) < 2147483647) ∧ Hid (∀ b ∈ l, isDig b = true) ∧ Below w.heap.size w wr ∧ Row wr w.heap.size (.cells #[.int .i64 x0, .int .i64 x1, .int .i64 x2, .int .i64 x3] 22) ∧ Row wr (w.heap.size + 1) (.cells #[.string ⟨#[]⟩, .string ⟨#[]⟩] 26) ∧ Row wr (w.heap.size + 1 + 1) (.cells #[.string t0, .string ⟨#[]⟩] 86)) (fun v6 _ _ => match v6 with | .string s => 1 + p1 - s.size | _ => 0)
        case atStart => exact ⟨[], c1, rfl, rfl, by simp, Lib.hid (by omega), Lib.hid (by simp), hB, rx, ro, rout⟩
        case round =>
          clear sx cx0 cx1 cx2 cx3
          clear so co0 co1 fo0 fo1
          clear sout cout0 cout1 fout0 fout1
          clear hB rx ro rout
          obtain ⟨l, c, rfl, rfl, hl, hc, hd, hB, rx, ro, rout⟩ := hrel
          have sz : (⟨l.toArray⟩ : ByteArray).size = l.length := by simp [ByteArray.size]
          rcases Nat.lt_or_ge l.length (1 + p1) with hlt | hge
          · obtain ⟨m, hm2, q1, q2, q3⟩ := lcg c hc.out
            obtain ⟨e, d, t, hd10, ht, h256, q4, q5, q6, q7⟩ := ldigit m hm2
            have CVb := CV wr t h256
            have HT := Lib.hid ht
            clear ht h256
            have HM := Lib.hid hm2
            have hdec : decide ((l.length : Int) < 1 + (p1 : Int)) = true := decide_eq_true (by omega)
            have hs2 : l.length ≤ 100 := by omega
            have HLT := Lib.hid hlt
            have HD := Lib.hid hd10
            clear hm2 hc CV PK PC P2 hlt hl hd10
            have sB := hB.size
            go_wp2
            go_roundw
            case rel => exact ⟨l ++ [UInt8.ofNat t], m, by rw [str_snoc], rfl, by have := HLT.out; simp; omega, Lib.hid (by have := HM.out; omega), Lib.hid (fun b hb => by rcases List.mem_append.1 hb with h | h; exact hd.out b h; simp at h; subst h; rw [HT.out]; exact isDig_ofNat d HD.out), BW, RW, RW, RW⟩
            case measure => have := HLT.out; simp [ByteArray.size]; omega
          · have hle : l.length = 1 + p1 := by omega
            have hdec : decide ((l.length : Int) < 1 + (p1 : Int)) = false := decide_eq_false (by omega)
            have HLE := Lib.hid hle
            clear hl hge hle CV PK PC P2 hc
            go_wp2
            have hle := HLE.out
            go_meet
            case rel => exact ⟨l, rfl, ⟨fun h => by rw [h] at hle; simp at hle; omega, by omega, hd.out⟩, BW, RW, RW, RW⟩
      case rest =>
        obtain ⟨l, rfl, hraw, hB, rx, ro, rout⟩ := hcut
        obtain ⟨sx, cx0, cx1, cx2, cx3⟩ := Fx _ rx
        obtain ⟨so, co0, co1, fo0, fo1⟩ := Fo _ ro
        obtain ⟨sout, cout0, cout1, fout0, fout1⟩ := Fout _ rout
        have hraw := Lib.hid hraw
        clear hc1
        go_upto_block 4 with fail
        go_cut [6] (fun s6 W => ∃ (t : ByteArray) (n : Nat), s6 = .string t ∧ Is t (n : Int) ∧ n < 10 ^ 100 ∧ Below w.heap.size w W ∧ Row W w.heap.size (.cells #[.int .i64 x0, .int .i64 x1, .int .i64 x2, .int .i64 x3] 22) ∧ Row W (w.heap.size + 1) (.cells #[.string ⟨#[]⟩, .string ⟨#[]⟩] 26) ∧ Row W (w.heap.size + 1 + 1) (.cells #[.string t0, .string ⟨#[]⟩] 86))
        case first =>
          go_wp2_with fail
          go_loopw [6] (fun v6 wr => ∃ l : List UInt8, v6 = .string ⟨l.toArray⟩ ∧ Hid (Raw 100 l) ∧ Below w.heap.size w wr ∧ Row wr w.heap.size (.cells #[.int .i64 x0, .int .i64 x1, .int .i64 x2, .int .i64 x3] 22) ∧ Row wr (w.heap.size + 1) (.cells #[.string ⟨#[]⟩, .string ⟨#[]⟩] 26) ∧ Row wr (w.heap.size + 1 + 1) (.cells #[.string t0, .string ⟨#[]⟩] 86)) (fun v6 _ => match v6 with | .string s => s.size | _ => 0)
          case atStart => exact ⟨l, rfl, hraw, hB, rx, ro, rout⟩
          case round =>
            clear sx cx0 cx1 cx2 cx3
            clear so co0 co1 fo0 fo1
            clear sout cout0 cout1 fout0 fout1
            clear hB rx ro rout
            obtain ⟨m, rfl, hm, hB, rx, ro, rout⟩ := hrel
            have sz : (⟨m.toArray⟩ : ByteArray).size = m.length := by simp [ByteArray.size]
            rcases m with _ | ⟨a, m⟩
            · exact absurd rfl hm.out.1
            rcases m with _ | ⟨b, m⟩
            · go_wp2
              go_meet
              case rel => obtain ⟨n, hn, hl⟩ := raw_is hm.out (by omega) (.inl rfl); exact ⟨_, n, rfl, hn, hl, BW, RW, RW, RW⟩
            have h0 : (⟨(a :: b :: m).toArray⟩ : ByteArray).size = m.length + 2 := by simp [ByteArray.size]
            have hml : m.length ≤ 98 := by have := hm.out.2.1; simp at this; omega
            clear sz
            by_cases ha : a = 48
            · subst ha
              go_wp2
              go_roundw
              case rel => exact ⟨b :: m, by rw [ext_take _ _ _ (by simp)]; rfl, Lib.hid ⟨by simp, by simp; omega, fun c hc => hm.out.2.2 c (List.mem_cons_of_mem _ hc)⟩, BW, RW, RW, RW⟩
              case measure => simp [ByteArray.size]
            · have ha2 := byte_ne ha
              have e0 : (⟨(a :: b :: m).toArray⟩ : ByteArray)[0]'(by simp [ByteArray.size]) = a := rfl
              go_wp2
              go_meet
              case rel => obtain ⟨n, hn, hl⟩ := raw_is hm.out (by omega) (.inr (by simpa using ha)); exact ⟨_, n, rfl, hn, hl, BW, RW, RW, RW⟩
        case rest =>
          clear sx cx0 cx1 cx2 cx3
          clear so co0 co1 fo0 fo1
          clear sout cout0 cout1 fout0 fout1
          clear hraw hB rx ro rout
          obtain ⟨t1, n1, rfl, it1, ln1, hB, rx, ro, rout⟩ := hcut
          have it1 := Lib.hid it1
          have ln1 := Lib.hid ln1
          obtain ⟨sx, cx0, cx1, cx2, cx3⟩ := Fx _ rx
          obtain ⟨so, co0, co1, fo0, fo1⟩ := Fo _ ro
          obtain ⟨sout, cout0, cout1, fout0, fout1⟩ := Fout _ rout
          go_wp2_with fail
          refine loopWp_step ?_
          obtain ⟨t2, d, hd0, hd1, it2, hj⟩ := long_den it1.out ln1.out
          have HD := Lib.hid (And.intro hd0 (And.intro hd1 it2))
          have hj := Lib.hid hj
          clear hd0 hd1 it2
          go_upto_if 58 with fail
          have sB := hB.size
          refine wp_cut (fun X => Below w.heap.size w X ∧ Row X w.heap.size (.cells #[.int .i64 x0, .int .i64 x1, .int .i64 x2, .int .i64 x3] 22) ∧ Row X (w.heap.size + 1) (.cells #[.string ⟨#[]⟩, .string ⟨#[]⟩] 26) ∧ Row X (w.heap.size + 1 + 1) (.cells #[.string t0, .string t1] 86)) ⟨BW, RW, RW, RW⟩ ?_
          clear rx
          clear sx cx0 cx1 cx2 cx3
          clear ro
          clear so co0 co1 fo0 fo1
          clear rout
          clear sout cout0 cout1 fout0 fout1
          clear hB sB
          rintro V7 ⟨hB, rx, ro, rout⟩
          obtain ⟨sx, cx0, cx1, cx2, cx3⟩ := Fx _ rx
          obtain ⟨so, co0, co1, fo0, fo1⟩ := Fo _ ro
          clear Fout
          have Fout : ∀ X, Row X (w.heap.size + 1 + 1) (.cells #[.string t0, .string t1] 86) → (w.heap.size + 1 + 1 < X.heap.size ∧ X.cell? ⟨w.heap.size + 1 + 1, 0, none⟩ = some (.string t0) ∧ X.cell? ⟨w.heap.size + 1 + 1, 1, none⟩ = some (.string t1) ∧ X.frozen? ⟨w.heap.size + 1 + 1, 0, none⟩ = false ∧ X.frozen? ⟨w.heap.size + 1 + 1, 1, none⟩ = false) := fun X h => ⟨h.1, Row.cell_lit h 0 rfl, Row.cell_lit h 1 rfl, frozen_of_row _ _ 0 _ _ h.2, frozen_of_row _ _ 1 _ _ h.2⟩
          obtain ⟨sout, cout0, cout1, fout0, fout1⟩ := Fout _ rout
          go_cut [] (fun W => Below w.heap.size w W ∧ Row W w.heap.size (.cells #[.int .i64 x0, .int .i64 x1, .int .i64 x2, .int .i64 x3] 22) ∧ Row W (w.heap.size + 1) (.cells #[.string ⟨#[]⟩, .string ⟨#[]⟩] 26) ∧ Row W (w.heap.size + 1 + 1) (.cells #[.string t0, .string t2] 86))
          case first =>
            rcases hj.out with ⟨g1, rfl⟩ | ⟨g1, rfl⟩
            · clear hj
              rw [g1]
              go_wp2
              go_meet
              case rel => exact ⟨BW, RW, RW, RW⟩
            · clear hj
              rw [g1]
              go_wp2
              go_meet
              case rel => exact ⟨BW, RW, RW, RW⟩
          case rest =>
            clear hB rx ro rout
            clear sx cx0 cx1 cx2 cx3
            clear so co0 co1 fo0 fo1
            clear sout cout0 cout1 fout0 fout1
            obtain ⟨hB, rx, ro, rout⟩ := hcut
            skip
            obtain ⟨sx, cx0, cx1, cx2, cx3⟩ := Fx _ rx
            obtain ⟨so, co0, co1, fo0, fo1⟩ := Fo _ ro
            clear Fout
            have Fout : ∀ X, Row X (w.heap.size + 1 + 1) (.cells #[.string t0, .string t2] 86) → (w.heap.size + 1 + 1 < X.heap.size ∧ X.cell? ⟨w.heap.size + 1 + 1, 0, none⟩ = some (.string t0) ∧ X.cell? ⟨w.heap.size + 1 + 1, 1, none⟩ = some (.string t2) ∧ X.frozen? ⟨w.heap.size + 1 + 1, 0, none⟩ = false ∧ X.frozen? ⟨w.heap.size + 1 + 1, 1, none⟩ = false) := fun X h => ⟨h.1, Row.cell_lit h 0 rfl, Row.cell_lit h 1 rfl, frozen_of_row _ _ 0 _ _ h.2, frozen_of_row _ _ 1 _ _ h.2⟩
            obtain ⟨sout, cout0, cout1, fout0, fout1⟩ := Fout _ rout
            clear hj
            have h2 := pv_lt x0 2 (by omega)
            obtain ⟨tn, z, hz, hj⟩ := long_num (p := pv x0 2) it0.out ln0.out h2
            have PV := fun W => pick4v x0 hx.1 W
            clear h2 PK PC P2
            generalize pv x0 2 = p at *
            have HZ := Lib.hid hz
            clear hz
            rcases hj with ⟨rfl, g1, rfl⟩ | ⟨rfl, g1, rfl⟩ | ⟨rfl, rfl⟩
            · have hsz : t0.size ≤ 201 := long_size it0.out ln0.out
              have MK := fun W => long_make HZ.out HD.out W
              clear HZ HD it0 ln0 hx
              go_wp2_with fail
              clear rx
              clear sx cx0 cx1 cx2 cx3
              clear Fx
              refine (PV _).mono ?_
              rintro e W9 ⟨rfl, h1⟩
              clear so co0 co1 fo0 fo1
              clear sout cout0 cout1 fout0 fout1
              replace hB := hB.trans (h1.mono hB.size)
              replace ro := Row.below ro h1
              replace rout := Row.below rout h1
              clear h1
              obtain ⟨so, co0, co1, fo0, fo1⟩ := Fo _ ro
              obtain ⟨sout, cout0, cout1, fout0, fout1⟩ := Fout _ rout
              go_wp2_with fail
              clear Fout
              have sB := hB.size
              refine world_cut (fun X => Below w.heap.size w X ∧ Row X (w.heap.size + 1) (.cells #[.string ⟨#[]⟩, .string ⟨#[]⟩] 26)) ⟨BW, RW⟩ ?_
              clear ro
              clear so co0 co1 fo0 fo1
              clear rout
              clear sout cout0 cout1 fout0 fout1
              clear hB sB
              rintro V10 ⟨hB, ro⟩
              obtain ⟨so, co0, co1, fo0, fo1⟩ := Fo _ ro
              refine (MK _).mono ?_
              rintro e W11 ⟨q, dq, rfl, h1⟩
              clear so co0 co1 fo0 fo1
              replace hB := hB.trans (h1.mono hB.size)
              replace ro := Row.below ro h1
              clear h1
              obtain ⟨so, co0, co1, fo0, fo1⟩ := Fo _ ro
              go_wp2_with fail
              have sB := hB.size
              refine post_cut (fun X => Below w.heap.size w X ∧ Row X (w.heap.size + 1) (.cells #[.string (S q.num), .string (S (q.den : Int))] 26)) ⟨BW, RW⟩ ?_
              clear ro
              clear so co0 co1 fo0 fo1
              clear hB sB
              rintro V12 ⟨hB, ro⟩
              clear Fo
              have Fo : ∀ X, Row X (w.heap.size + 1) (.cells #[.string (S q.num), .string (S (q.den : Int))] 26) → (w.heap.size + 1 < X.heap.size ∧ X.cell? ⟨w.heap.size + 1, 0, none⟩ = some (.string (S q.num)) ∧ X.cell? ⟨w.heap.size + 1, 1, none⟩ = some (.string (S (q.den : Int))) ∧ X.frozen? ⟨w.heap.size + 1, 0, none⟩ = false ∧ X.frozen? ⟨w.heap.size + 1, 1, none⟩ = false) := fun X h => ⟨h.1, Row.cell_lit h 0 rfl, Row.cell_lit h 1 rfl, frozen_of_row _ _ 0 _ _ h.2, frozen_of_row _ _ 1 _ _ h.2⟩
              obtain ⟨so, co0, co1, fo0, fo1⟩ := Fo _ ro
              refine bodyPost_ret (v := .agg #[.string (S q.num), .string (S (q.den : Int))]) ?res rfl ⟨q, dq, rfl, hB⟩
              case res => simp [results, Tryz.results14, go_sem, co0, co1]
            · have MK := fun W => long_make HZ.out HD.out W
              clear HZ HD it0 ln0 hx
              go_wp2_with fail
              clear rx
              clear sx cx0 cx1 cx2 cx3
              clear Fx
              refine (PV _).mono ?_
              rintro e W9 ⟨rfl, h1⟩
              clear so co0 co1 fo0 fo1
              clear sout cout0 cout1 fout0 fout1
              replace hB := hB.trans (h1.mono hB.size)
              replace ro := Row.below ro h1
              replace rout := Row.below rout h1
              clear h1
              obtain ⟨so, co0, co1, fo0, fo1⟩ := Fo _ ro
              obtain ⟨sout, cout0, cout1, fout0, fout1⟩ := Fout _ rout
              go_wp2_with fail
              clear rout
              clear sout cout0 cout1 fout0 fout1
              clear Fout
              refine (MK _).mono ?_
              rintro e W10 ⟨q, dq, rfl, h1⟩
              clear so co0 co1 fo0 fo1
              replace hB := hB.trans (h1.mono hB.size)
              replace ro := Row.below ro h1
              clear h1
              obtain ⟨so, co0, co1, fo0, fo1⟩ := Fo _ ro
              go_wp2_with fail
              have sB := hB.size
              refine post_cut (fun X => Below w.heap.size w X ∧ Row X (w.heap.size + 1) (.cells #[.string (S q.num), .string (S (q.den : Int))] 26)) ⟨BW, RW⟩ ?_
              clear ro
              clear so co0 co1 fo0 fo1
              clear hB sB
              rintro V11 ⟨hB, ro⟩
              clear Fo
              have Fo : ∀ X, Row X (w.heap.size + 1) (.cells #[.string (S q.num), .string (S (q.den : Int))] 26) → (w.heap.size + 1 < X.heap.size ∧ X.cell? ⟨w.heap.size + 1, 0, none⟩ = some (.string (S q.num)) ∧ X.cell? ⟨w.heap.size + 1, 1, none⟩ = some (.string (S (q.den : Int))) ∧ X.frozen? ⟨w.heap.size + 1, 0, none⟩ = false ∧ X.frozen? ⟨w.heap.size + 1, 1, none⟩ = false) := fun X h => ⟨h.1, Row.cell_lit h 0 rfl, Row.cell_lit h 1 rfl, frozen_of_row _ _ 0 _ _ h.2, frozen_of_row _ _ 1 _ _ h.2⟩
              obtain ⟨so, co0, co1, fo0, fo1⟩ := Fo _ ro
              refine bodyPost_ret (v := .agg #[.string (S q.num), .string (S (q.den : Int))]) ?res rfl ⟨q, dq, rfl, hB⟩
              case res => simp [results, Tryz.results14, go_sem, co0, co1]
            · have MK := fun W => long_make HZ.out HD.out W
              clear HZ HD it0 ln0 hx
              go_wp2_with fail
              clear rx
              clear sx cx0 cx1 cx2 cx3
              clear Fx
              refine (PV _).mono ?_
              rintro e W9 ⟨rfl, h1⟩
              clear so co0 co1 fo0 fo1
              clear sout cout0 cout1 fout0 fout1
              replace hB := hB.trans (h1.mono hB.size)
              replace ro := Row.below ro h1
              replace rout := Row.below rout h1
              clear h1
              obtain ⟨so, co0, co1, fo0, fo1⟩ := Fo _ ro
              obtain ⟨sout, cout0, cout1, fout0, fout1⟩ := Fout _ rout
              go_wp2_with fail
              clear rout
              clear sout cout0 cout1 fout0 fout1
              clear Fout
              refine (MK _).mono ?_
              rintro e W10 ⟨q, dq, rfl, h1⟩
              clear so co0 co1 fo0 fo1
              replace hB := hB.trans (h1.mono hB.size)
              replace ro := Row.below ro h1
              clear h1
              obtain ⟨so, co0, co1, fo0, fo1⟩ := Fo _ ro
              go_wp2_with fail
              have sB := hB.size
              refine post_cut (fun X => Below w.heap.size w X ∧ Row X (w.heap.size + 1) (.cells #[.string (S q.num), .string (S (q.den : Int))] 26)) ⟨BW, RW⟩ ?_
              clear ro
              clear so co0 co1 fo0 fo1
              clear hB sB
              rintro V11 ⟨hB, ro⟩
              clear Fo
              have Fo : ∀ X, Row X (w.heap.size + 1) (.cells #[.string (S q.num), .string (S (q.den : Int))] 26) → (w.heap.size + 1 < X.heap.size ∧ X.cell? ⟨w.heap.size + 1, 0, none⟩ = some (.string (S q.num)) ∧ X.cell? ⟨w.heap.size + 1, 1, none⟩ = some (.string (S (q.den : Int))) ∧ X.frozen? ⟨w.heap.size + 1, 0, none⟩ = false ∧ X.frozen? ⟨w.heap.size + 1, 1, none⟩ = false) := fun X h => ⟨h.1, Row.cell_lit h 0 rfl, Row.cell_lit h 1 rfl, frozen_of_row _ _ 0 _ _ h.2, frozen_of_row _ _ 1 _ _ h.2⟩
              obtain ⟨so, co0, co1, fo0, fo1⟩ := Fo _ ro
              refine bodyPost_ret (v := .agg #[.string (S q.num), .string (S (q.den : Int))]) ?res rfl ⟨q, dq, rfl, hB⟩
              case res => simp [results, Tryz.results14, go_sem, co0, co1]
end Go.Proofs.YtngohpgkceedeaaGreatDoor
