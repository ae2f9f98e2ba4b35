/-
  drift.Until: up to when what is known stays within a width.
-/
import Derived.Test.YtngohpgkceedeaaGreatDoorWDAdd
import Derived.Test.YtngohpgkceedeaaGreatDoorWQBad
set_option linter.unusedSimpArgs false
set_option linter.unusedVariables false
namespace Go.Proofs.YtngohpgkceedeaaGreatDoor
open Go Go.RowKit Go.Lib Go.Shelf

theorem dat_free {r : Rat} {l : List Pt} (ho : Hist.Ok ⟨r, l⟩) (hf : Free ⟨r, l⟩) {t : Nat} (ht : t ≤ 1000000) (p : Option Addr) (m c : Nat) (hm : l.length = m) (hpos : 0 < m) (w : World) (hp : PAt w p l) (he : Env w) :
    Calls Tryz.prog 31 #[.agg #[.string (S r.num), .string (S (r.den : Int)), .slice p m c], .int .i64 (t : Int)] w (fun e w' => ∃ o, Knows ⟨r, l⟩ t o ∧ e = .returned (.tuple #[.agg #[.string (S o.lo.num), .string (S (o.lo.den : Int)), .string (S o.hi.num), .string (S (o.hi.den : Int))], .int .i64 0]) ∧ Below w.heap.size w w') :=
  (dat ho ht p m c hm hpos w hp he).mono fun e w' h => by
    obtain ⟨⟨_, o, h1, h2⟩ | ⟨h1, _⟩, h3⟩ := h
    · exact ⟨o, h1, h2, h3⟩
    · exact absurd hf h1
theorem dat_bad {r : Rat} {l : List Pt} (ho : Hist.Ok ⟨r, l⟩) (hf : ¬ Free ⟨r, l⟩) {t : Nat} (ht : t ≤ 1000000) (p : Option Addr) (m c : Nat) (hm : l.length = m) (hpos : 0 < m) (w : World) (hp : PAt w p l) (he : Env w) :
    Calls Tryz.prog 31 #[.agg #[.string (S r.num), .string (S (r.den : Int)), .slice p m c], .int .i64 (t : Int)] w (AtErr w) :=
  (dat ho ht p m c hm hpos w hp he).mono fun e w' h => by
    obtain ⟨⟨h1, _⟩ | ⟨_, h1⟩, h3⟩ := h
    · exact absurd h1 hf
    · exact ⟨h1, h3⟩
set_option maxRecDepth 100000 in
set_option maxHeartbeats 16000000 in
theorem iswide_ok {r wd : Rat} {l : List Pt} (ho : Hist.Ok ⟨r, l⟩) (hf : Free ⟨r, l⟩) {f n : Nat} (ht : f + n ≤ 1000000) {o0 : Iv} (hk : Knows ⟨r, l⟩ f o0) (hfu : ∀ q, q ∈ l → q.t ≤ f) (hwd : QDig 200 wd) (p : Option Addr) (m c : Nat) (hm : l.length = m) (hpos : 0 < m) (bh bf bw : Nat) (w0 w : World) (hp : PAt w0 p l) (hB2 : Below w0.heap.size w0 w) (he : Env w) (rh : Row w bh (.cells #[.string (S r.num), .string (S (r.den : Int)), .slice p m c] 49)) (rf : Row w bf (.cells #[.int .i64 (f : Int)] 3)) (rwd : Row w bw (.cells #[.string (S wd.num), .string (S (wd.den : Int))] 26)) :
    Calls Tryz.prog 86 #[.int .i64 (n : Int), .pointer (some ⟨bh, 0, none⟩), .pointer (some ⟨bf, 0, none⟩), .pointer (some ⟨bw, 0, none⟩)] w (BoolOk (decide (0 < cmpQ (o0.hi - o0.lo + far r (2 * n)) wd)) w) := by
  have hB : Below w.heap.size w w := Below.refl _ _
  have MA := fun W (hp : PAt W p l) (H : Env W) => dat_free ho hf ht p m c hm hpos W hp H
  have HP := Lib.hid hp
  have HB := Lib.hid hB2
  have HO := Lib.hid ho
  have HT := Lib.hid ht
  have HK := Lib.hid hk
  have HF := Lib.hid hfu
  have HW := Lib.hid hwd
  have hadd : IntKind.i64.wrap ((f : Int) + (n : Int)) = ((f + n : Nat) : Int) := by rw [IntKind.wrap_i64]; omega
  clear ht ho hf hm hpos hp hk hfu hB2 hwd
  have Fh : ∀ X, Row X bh (.cells #[.string (S r.num), .string (S (r.den : Int)), .slice p m c] 49) → (bh < X.heap.size ∧ X.cell? ⟨bh, 0, none⟩ = some (.string (S r.num)) ∧ X.cell? ⟨bh, 1, none⟩ = some (.string (S (r.den : Int))) ∧ X.cell? ⟨bh, 2, none⟩ = some (.slice p m c)) := fun X h => ⟨h.1, Row.cell_at h 0 rfl, Row.cell_at h 1 rfl, Row.cell_at h 2 rfl⟩
  obtain ⟨sh, ch0, ch1, ch2⟩ := Fh _ rh
  have Ff : ∀ X, Row X bf (.cells #[.int .i64 (f : Int)] 3) → (bf < X.heap.size ∧ X.cell? ⟨bf, 0, none⟩ = some (.int .i64 (f : Int))) := fun X h => ⟨h.1, Row.cell_at h 0 rfl⟩
  obtain ⟨sf, cf0⟩ := Ff _ rf
  have Fwd : ∀ X, Row X bw (.cells #[.string (S wd.num), .string (S (wd.den : Int))] 26) → (bw < X.heap.size ∧ X.cell? ⟨bw, 0, none⟩ = some (.string (S wd.num)) ∧ X.cell? ⟨bw, 1, none⟩ = some (.string (S (wd.den : Int)))) := fun X h => ⟨h.1, Row.cell_at h 0 rfl, Row.cell_at h 1 rfl⟩
  obtain ⟨swd, cwd0, cwd1⟩ := Fwd _ rwd
  go_enter Tryz.func86, Tryz.ntmps86
  go_wp2_with fail
  clear rh
  clear sh ch0 ch1 ch2
  clear Fh
  clear rf
  clear sf cf0
  clear Ff
  refine (MA _ (HP.out.below (HB.out.trans (hB.mono HB.out.size))) (he.below hB)).mono ?_
  rintro e W1 ⟨o, hKn, rfl, h1⟩
  clear swd cwd0 cwd1
  replace hB := hB.trans (h1.mono hB.size)
  replace rwd := Row.below rwd h1
  clear h1
  obtain ⟨swd, cwd0, cwd1⟩ := Fwd _ rwd
  have hwa := width_after HF.out HK.out hKn
  have hdo := hKn.dig HO.out.rdig (fun p hp => (HO.out.ivs p hp).2) HT.out HO.out.times
  have MS := fun W (H : Env W) => qsub hdo.2 hdo.1 (by omega) W H
  have hds := (hdo.2.sub hdo.1).mono (show 40 + 40 + 8 + (40 + 40 + 8) + 1 ≤ 200 by omega)
  rw [hwa] at MS hds
  have MC := fun W (H : Env W) => qcompare (o0.hi - o0.lo + far r (2 * n)) wd hds HW.out W H
  unfold QOk CmpOk Q at *
  generalize hgy : o0.hi - o0.lo + far r (2 * n) = yv at *
  generalize hgc : cmpQ yv wd = cv at *
  have HGY := Lib.hid hgy
  have HGC := Lib.hid hgc
  clear hgy hgc hwa hds hdo hKn
  go_wp2_with fail
  have sB := hB.size
  refine world_cut (fun X => Below w.heap.size w X ∧ Row X bw (.cells #[.string (S wd.num), .string (S (wd.den : Int))] 26)) ⟨BW, RWh⟩ ?_
  clear rwd
  clear swd cwd0 cwd1
  clear hB sB
  rintro V2 ⟨hB, rwd⟩
  obtain ⟨swd, cwd0, cwd1⟩ := Fwd _ rwd
  refine (MS _ (he.below hB)).mono ?_
  rintro e W3 ⟨rfl, h1⟩
  clear swd cwd0 cwd1
  replace hB := hB.trans (h1.mono hB.size)
  replace rwd := Row.below rwd h1
  clear h1
  obtain ⟨swd, cwd0, cwd1⟩ := Fwd _ rwd
  go_wp2_with fail
  clear Fwd
  have sB := hB.size
  refine world_cut (fun X => Below w.heap.size w X) BW ?_
  clear rwd
  clear swd cwd0 cwd1
  clear hB sB
  rintro V4 hB
  refine (MC _ (he.below hB)).mono ?_
  rintro e W5 ⟨rfl, h1⟩
  replace hB := hB.trans (h1.mono hB.size)
  clear h1
  go_wp2
  go_ret
  refine ⟨?_, hB⟩
  rw [← HGC.out, ← HGY.out]
  rfl
set_option maxRecDepth 100000 in
set_option maxHeartbeats 16000000 in
theorem iswide_bad {f n : Nat} (ht : f + n ≤ 1000000) (s1 s2 x1 x2 : ByteArray) (p : Option Addr) (m c : Nat) (bh bf bw : Nat) (w : World) (HA : ∀ W, Below w.heap.size w W → Calls Tryz.prog 31 #[.agg #[.string s1, .string s2, .slice p m c], .int .i64 ((f + n : Nat) : Int)] W (AtErr W)) (rh : Row w bh (.cells #[.string s1, .string s2, .slice p m c] 49)) (rf : Row w bf (.cells #[.int .i64 (f : Int)] 3)) (rwd : Row w bw (.cells #[.string x1, .string x2] 26)) :
    Calls Tryz.prog 86 #[.int .i64 (n : Int), .pointer (some ⟨bh, 0, none⟩), .pointer (some ⟨bf, 0, none⟩), .pointer (some ⟨bw, 0, none⟩)] w (BoolOk true w) := by
  have hB : Below w.heap.size w w := Below.refl _ _
  have MA := HA
  unfold AtErr at MA
  unfold BoolOk
  have MS := fun W => qsub_zero W
  have HT := Lib.hid ht
  clear HA
  have hadd : IntKind.i64.wrap ((f : Int) + (n : Int)) = ((f + n : Nat) : Int) := by rw [IntKind.wrap_i64]; omega
  clear ht
  have Fh : ∀ X, Row X bh (.cells #[.string s1, .string s2, .slice p m c] 49) → (bh < X.heap.size ∧ X.cell? ⟨bh, 0, none⟩ = some (.string s1) ∧ X.cell? ⟨bh, 1, none⟩ = some (.string s2) ∧ X.cell? ⟨bh, 2, none⟩ = some (.slice p m c)) := fun X h => ⟨h.1, Row.cell_at h 0 rfl, Row.cell_at h 1 rfl, Row.cell_at h 2 rfl⟩
  obtain ⟨sh, ch0, ch1, ch2⟩ := Fh _ rh
  have Ff : ∀ X, Row X bf (.cells #[.int .i64 (f : Int)] 3) → (bf < X.heap.size ∧ X.cell? ⟨bf, 0, none⟩ = some (.int .i64 (f : Int))) := fun X h => ⟨h.1, Row.cell_at h 0 rfl⟩
  obtain ⟨sf, cf0⟩ := Ff _ rf
  have Fwd : ∀ X, Row X bw (.cells #[.string x1, .string x2] 26) → (bw < X.heap.size ∧ X.cell? ⟨bw, 0, none⟩ = some (.string x1) ∧ X.cell? ⟨bw, 1, none⟩ = some (.string x2)) := fun X h => ⟨h.1, Row.cell_at h 0 rfl, Row.cell_at h 1 rfl⟩
  obtain ⟨swd, cwd0, cwd1⟩ := Fwd _ rwd
  go_enter Tryz.func86, Tryz.ntmps86
  go_wp2_with fail
  clear rh
  clear sh ch0 ch1 ch2
  clear Fh
  clear rf
  clear sf cf0
  clear Ff
  refine (MA _ hB).mono ?_
  rintro e W1 ⟨rfl, h1⟩
  clear swd cwd0 cwd1
  replace hB := hB.trans (h1.mono hB.size)
  replace rwd := Row.below rwd h1
  clear h1
  obtain ⟨swd, cwd0, cwd1⟩ := Fwd _ rwd
  go_wp2_with fail
  have sB := hB.size
  refine world_cut (fun X => Below w.heap.size w X ∧ Row X bw (.cells #[.string x1, .string x2] 26)) ⟨BW, RWh⟩ ?_
  clear rwd
  clear swd cwd0 cwd1
  clear hB sB
  rintro V2 ⟨hB, rwd⟩
  obtain ⟨swd, cwd0, cwd1⟩ := Fwd _ rwd
  refine (MS _).mono ?_
  rintro e W3 ⟨rfl, h1⟩
  clear swd cwd0 cwd1
  replace hB := hB.trans (h1.mono hB.size)
  replace rwd := Row.below rwd h1
  clear h1
  obtain ⟨swd, cwd0, cwd1⟩ := Fwd _ rwd
  have sB := hB.size
  go_wp2
  go_ret
  exact ⟨rfl, BW⟩
set_option maxRecDepth 100000 in
set_option maxHeartbeats 16000000 in
theorem until2 {i : Nat} (hi : i ≤ 1000000) (b : Bool) (bu bh bf bw : Nat) (w : World) (hu : Row w bu (.cells #[.func (.func 86) #[] #[.pointer (some ⟨bh, 0, none⟩), .pointer (some ⟨bf, 0, none⟩), .pointer (some ⟨bw, 0, none⟩)]] 114)) (hc : ∀ W, Below w.heap.size w W → Calls Tryz.prog 86 #[.int .i64 ((i + 1 : Nat) : Int), .pointer (some ⟨bh, 0, none⟩), .pointer (some ⟨bf, 0, none⟩), .pointer (some ⟨bw, 0, none⟩)] W (BoolOk b W)) :
    Calls Tryz.prog 88 #[.int .i64 (i : Int), .pointer (some ⟨bu, 0, none⟩)] w (BoolOk b w) := by
  have hB : Below w.heap.size w w := Below.refl _ _
  have MW := hc
  unfold BoolOk at MW ⊢
  have hadd : IntKind.i64.wrap ((i : Int) + 1) = ((i + 1 : Nat) : Int) := by rw [IntKind.wrap_i64]; omega
  clear hc hi
  have ru := hu
  have Fu : ∀ X, Row X bu (.cells #[.func (.func 86) #[] #[.pointer (some ⟨bh, 0, none⟩), .pointer (some ⟨bf, 0, none⟩), .pointer (some ⟨bw, 0, none⟩)]] 114) → (bu < X.heap.size ∧ X.cell? ⟨bu, 0, none⟩ = some (.func (.func 86) #[] #[.pointer (some ⟨bh, 0, none⟩), .pointer (some ⟨bf, 0, none⟩), .pointer (some ⟨bw, 0, none⟩)])) := fun X h => ⟨h.1, Row.cell_at h 0 rfl⟩
  obtain ⟨su, cu0⟩ := Fu _ ru
  go_enter Tryz.func88, Tryz.ntmps88
  go_wp2_with fail
  clear ru
  clear su cu0
  clear Fu
  refine (MW _ hB).mono ?_
  rintro e W1 ⟨rfl, h1⟩
  replace hB := hB.trans (h1.mono hB.size)
  clear h1
  go_wp2
  go_ret
  exact ⟨rfl, hB⟩
set_option maxRecDepth 100000 in
set_option maxHeartbeats 16000000 in
theorem duntil_wide {f : Nat} (hf : f ≤ 1000000) (a1 a2 s1 s2 x1 x2 : ByteArray) (p0 : Option Addr) (m0 c0 k : Nat) (xs : List Value) (w : World) (KV : ∀ W, Below w.heap.size w W → Calls Tryz.prog 36 #[.agg #[.string a1, .string a2, .slice p0 m0 c0], .int .i64 (f : Int)] W fun e w' => ∃ p c, w'.ownsRow W.heap.size 53 5 (.slice p k c) k xs ∧ e = .returned (.agg #[.string s1, .string s2, .slice p k c]) ∧ Below W.heap.size W w') (HV : ∀ W, Below w.heap.size w W → Calls Tryz.prog 58 #[.agg #[.string x1, .string x2]] W (BoolOk true W)) (HI : ∀ p c bh bf bw n W, W.ownsRow n 53 5 (.slice p k c) k xs → Row W bh (.cells #[.string s1, .string s2, .slice p k c] 49) → Row W bf (.cells #[.int .i64 (f : Int)] 3) → Row W bw (.cells #[.string x1, .string x2] 26) → Below w.heap.size w W → Calls Tryz.prog 86 #[.int .i64 0, .pointer (some ⟨bh, 0, none⟩), .pointer (some ⟨bf, 0, none⟩), .pointer (some ⟨bw, 0, none⟩)] W (BoolOk true W)) : Calls Tryz.prog 33 #[.agg #[.string a1, .string a2, .slice p0 m0 c0], .int .i64 (f : Int), .agg #[.string x1, .string x2]] w fun e w' => e = .returned (.tuple #[.int .i64 0, .bool false]) ∧ Below w.heap.size w w' := by
  have hB : Below w.heap.size w w := Below.refl _ _
  have MK := KV
  have MV := HV
  unfold BoolOk at MV
  clear KV HV
  have MW := fun p c bh bf bw n W ho rh rf rw hB => HI p c bh bf bw n W ho rh rf rw hB
  unfold BoolOk at MW
  clear HI
  have ht0 : decide ((f : Int) < 0) = false := decide_eq_false (by omega)
  have ht1 : decide (1000000 < (f : Int)) = false := decide_eq_false (by omega)
  go_enter Tryz.func33, Tryz.ntmps33
  go_wp2_with fail
  have d0_h : w.heap.size ≤ w.heap.size := by have := hB.size; omega
  have sB := hB.size
  refine world_cut (fun X => Below w.heap.size w X ∧ Row X w.heap.size (.cells #[.string a1, .string a2, .slice p0 m0 c0] 49) ∧ Row X (w.heap.size + 1) (.cells #[.int .i64 (f : Int)] 3) ∧ Row X (w.heap.size + 1 + 1) (.cells #[.string x1, .string x2] 26)) ⟨BW, RWh, RWh, RWh⟩ ?_
  clear hB sB
  rintro V1 ⟨hB, rh, rf, rwd⟩
  have Fh : ∀ X, Row X w.heap.size (.cells #[.string a1, .string a2, .slice p0 m0 c0] 49) → (w.heap.size < X.heap.size ∧ X.cell? ⟨w.heap.size, 0, none⟩ = some (.string a1) ∧ X.cell? ⟨w.heap.size, 1, none⟩ = some (.string a2) ∧ X.cell? ⟨w.heap.size, 2, none⟩ = some (.slice p0 m0 c0) ∧ X.frozen? ⟨w.heap.size, 0, none⟩ = false ∧ X.frozen? ⟨w.heap.size, 1, none⟩ = false ∧ X.frozen? ⟨w.heap.size, 2, none⟩ = false) := fun X h => ⟨h.1, Row.cell_at h 0 rfl, Row.cell_at h 1 rfl, Row.cell_at h 2 rfl, frozen_of_row _ _ 0 _ _ h.2, frozen_of_row _ _ 1 _ _ h.2, frozen_of_row _ _ 2 _ _ h.2⟩
  obtain ⟨sh, ch0, ch1, ch2, fh0, fh1, fh2⟩ := Fh _ rh
  have Ff : ∀ X, Row X (w.heap.size + 1) (.cells #[.int .i64 (f : Int)] 3) → (w.heap.size + 1 < X.heap.size ∧ X.cell? ⟨w.heap.size + 1, 0, none⟩ = some (.int .i64 (f : Int))) := fun X h => ⟨h.1, Row.cell_at h 0 rfl⟩
  obtain ⟨sf, cf0⟩ := Ff _ rf
  have Fwd : ∀ X, Row X (w.heap.size + 1 + 1) (.cells #[.string x1, .string x2] 26) → (w.heap.size + 1 + 1 < X.heap.size ∧ X.cell? ⟨w.heap.size + 1 + 1, 0, none⟩ = some (.string x1) ∧ X.cell? ⟨w.heap.size + 1 + 1, 1, none⟩ = some (.string x2)) := fun X h => ⟨h.1, Row.cell_at h 0 rfl, Row.cell_at h 1 rfl⟩
  obtain ⟨swd, cwd0, cwd1⟩ := Fwd _ rwd
  have hk0 := rwd.1
  refine (MK _ hB).mono ?_
  rintro e W2 ⟨p, c, hown, rfl, h1⟩
  clear sh ch0 ch1 ch2 fh0 fh1 fh2
  clear sf cf0
  clear swd cwd0 cwd1
  replace hB := hB.trans (h1.mono hB.size)
  replace rh := Row.below rh h1
  replace rf := Row.below rf h1
  replace rwd := Row.below rwd h1
  clear h1
  obtain ⟨sh, ch0, ch1, ch2, fh0, fh1, fh2⟩ := Fh _ rh
  obtain ⟨sf, cf0⟩ := Ff _ rf
  obtain ⟨swd, cwd0, cwd1⟩ := Fwd _ rwd
  go_wp2_with fail
  have dh_u : w.heap.size < W2.heap.size := by omega
  have sB := hB.size
  refine world_cut (fun X => Below w.heap.size w X ∧ Row X w.heap.size (.cells #[.string s1, .string s2, .slice p k c] 49) ∧ Row X (w.heap.size + 1) (.cells #[.int .i64 (f : Int)] 3) ∧ Row X (w.heap.size + 1 + 1) (.cells #[.string x1, .string x2] 26) ∧ Row X W2.heap.size (.cells #[.func (.func 86) #[] #[.pointer (some ⟨w.heap.size, 0, none⟩), .pointer (some ⟨w.heap.size + 1, 0, none⟩), .pointer (some ⟨w.heap.size + 1 + 1, 0, none⟩)]] 114) ∧ X.ownsRow V1.heap.size 53 5 (.slice p k c) k xs) ⟨BW, RWh, RWh, RWh, RWh, OW⟩ ?_
  clear rh
  clear sh ch0 ch1 ch2 fh0 fh1 fh2
  clear rf
  clear sf cf0
  clear rwd
  clear swd cwd0 cwd1
  clear hB sB hown
  rintro V3 ⟨hB, rh, rf, rwd, ru, hown⟩
  clear Fh
  have Fh : ∀ X, Row X w.heap.size (.cells #[.string s1, .string s2, .slice p k c] 49) → (w.heap.size < X.heap.size ∧ X.cell? ⟨w.heap.size, 0, none⟩ = some (.string s1) ∧ X.cell? ⟨w.heap.size, 1, none⟩ = some (.string s2) ∧ X.cell? ⟨w.heap.size, 2, none⟩ = some (.slice p k c) ∧ X.frozen? ⟨w.heap.size, 0, none⟩ = false ∧ X.frozen? ⟨w.heap.size, 1, none⟩ = false ∧ X.frozen? ⟨w.heap.size, 2, none⟩ = false) := fun X h => ⟨h.1, Row.cell_at h 0 rfl, Row.cell_at h 1 rfl, Row.cell_at h 2 rfl, frozen_of_row _ _ 0 _ _ h.2, frozen_of_row _ _ 1 _ _ h.2, frozen_of_row _ _ 2 _ _ h.2⟩
  obtain ⟨sh, ch0, ch1, ch2, fh0, fh1, fh2⟩ := Fh _ rh
  obtain ⟨sf, cf0⟩ := Ff _ rf
  obtain ⟨swd, cwd0, cwd1⟩ := Fwd _ rwd
  have Fu : ∀ X, Row X W2.heap.size (.cells #[.func (.func 86) #[] #[.pointer (some ⟨w.heap.size, 0, none⟩), .pointer (some ⟨w.heap.size + 1, 0, none⟩), .pointer (some ⟨w.heap.size + 1 + 1, 0, none⟩)]] 114) → (W2.heap.size < X.heap.size ∧ X.cell? ⟨W2.heap.size, 0, none⟩ = some (.func (.func 86) #[] #[.pointer (some ⟨w.heap.size, 0, none⟩), .pointer (some ⟨w.heap.size + 1, 0, none⟩), .pointer (some ⟨w.heap.size + 1 + 1, 0, none⟩)])) := fun X h => ⟨h.1, Row.cell_at h 0 rfl⟩
  obtain ⟨su, cu0⟩ := Fu _ ru
  refine (MV _ hB).mono ?_
  rintro e W4 ⟨rfl, h1⟩
  clear sh ch0 ch1 ch2 fh0 fh1 fh2
  clear sf cf0
  clear swd cwd0 cwd1
  clear su cu0
  replace hB := hB.trans (h1.mono hB.size)
  replace rh := Row.below rh h1
  replace rf := Row.below rf h1
  replace rwd := Row.below rwd h1
  replace ru := Row.below ru h1
  replace hown := own_later hown h1
  clear h1
  obtain ⟨sh, ch0, ch1, ch2, fh0, fh1, fh2⟩ := Fh _ rh
  obtain ⟨sf, cf0⟩ := Ff _ rf
  obtain ⟨swd, cwd0, cwd1⟩ := Fwd _ rwd
  obtain ⟨su, cu0⟩ := Fu _ ru
  go_wp2_with fail
  refine (MW p c _ _ _ _ _ hown rh rf rwd hB).mono ?_
  rintro e W5 ⟨rfl, h1⟩
  clear sh ch0 ch1 ch2 fh0 fh1 fh2
  clear sf cf0
  clear swd cwd0 cwd1
  clear su cu0
  replace hB := hB.trans (h1.mono hB.size)
  replace rh := Row.below rh h1
  replace rf := Row.below rf h1
  replace rwd := Row.below rwd h1
  replace ru := Row.below ru h1
  replace hown := own_later hown h1
  clear h1
  obtain ⟨sh, ch0, ch1, ch2, fh0, fh1, fh2⟩ := Fh _ rh
  obtain ⟨sf, cf0⟩ := Ff _ rf
  obtain ⟨swd, cwd0, cwd1⟩ := Fwd _ rwd
  obtain ⟨su, cu0⟩ := Fu _ ru
  go_wp2
  refine bodyPost_ret (v := .tuple #[.int .i64 0, .bool false]) ?res rfl ⟨rfl, hB⟩
  case res => simp [results, Tryz.results33, go_sem]
set_option maxRecDepth 100000 in
set_option maxHeartbeats 16000000 in
theorem duntil_last {f : Nat} (hf : f ≤ 1000000) (pr : Nat → Bool) (h0 : pr 0 = false) (hmono : ∀ a b, a ≤ b → b < 1000000 - f → pr (a + 1) = true → pr (b + 1) = true) (a1 a2 s1 s2 x1 x2 : ByteArray) (p0 : Option Addr) (m0 c0 k : Nat) (xs : List Value) (w : World) (KV : ∀ W, Below w.heap.size w W → Calls Tryz.prog 36 #[.agg #[.string a1, .string a2, .slice p0 m0 c0], .int .i64 (f : Int)] W fun e w' => ∃ p c, w'.ownsRow W.heap.size 53 5 (.slice p k c) k xs ∧ e = .returned (.agg #[.string s1, .string s2, .slice p k c]) ∧ Below W.heap.size W w') (HV : ∀ W, Below w.heap.size w W → Calls Tryz.prog 58 #[.agg #[.string x1, .string x2]] W (BoolOk true W)) (HI : ∀ p c bh bf bw n i W, f + i ≤ 1000000 → W.ownsRow n 53 5 (.slice p k c) k xs → Row W bh (.cells #[.string s1, .string s2, .slice p k c] 49) → Row W bf (.cells #[.int .i64 (f : Int)] 3) → Row W bw (.cells #[.string x1, .string x2] 26) → Below w.heap.size w W → Calls Tryz.prog 86 #[.int .i64 (i : Int), .pointer (some ⟨bh, 0, none⟩), .pointer (some ⟨bf, 0, none⟩), .pointer (some ⟨bw, 0, none⟩)] W (BoolOk (pr i) W)) : Calls Tryz.prog 33 #[.agg #[.string a1, .string a2, .slice p0 m0 c0], .int .i64 (f : Int), .agg #[.string x1, .string x2]] w fun e w' => ∃ N : Nat, N ≤ 1000000 - f ∧ (∀ t, t < N → pr (t + 1) = false) ∧ (∀ t, N ≤ t → t < 1000000 - f → pr (t + 1) = true) ∧ e = .returned (.tuple #[.int .i64 ((f : Int) + (N : Int)), .bool true]) ∧ Below w.heap.size w w' := by
  have hB : Below w.heap.size w w := Below.refl _ _
  have MK := KV
  have MV := HV
  unfold BoolOk at MV
  clear KV HV
  have MW := fun p c bh bf bw n W ho rh rf rw hB => HI p c bh bf bw n 0 W (by omega) ho rh rf rw hB
  rw [h0] at MW
  unfold BoolOk at MW
  have HI2 := Lib.hid HI
  clear HI h0
  have ht0 : decide ((f : Int) < 0) = false := decide_eq_false (by omega)
  have ht1 : decide (1000000 < (f : Int)) = false := decide_eq_false (by omega)
  have hsub : IntKind.i64.wrap (1000000 - (f : Int)) = ((1000000 - f : Nat) : Int) := by rw [IntKind.wrap_i64]; omega
  go_enter Tryz.func33, Tryz.ntmps33
  go_wp2_with fail
  have d0_h : w.heap.size ≤ w.heap.size := by have := hB.size; omega
  have sB := hB.size
  refine world_cut (fun X => Below w.heap.size w X ∧ Row X w.heap.size (.cells #[.string a1, .string a2, .slice p0 m0 c0] 49) ∧ Row X (w.heap.size + 1) (.cells #[.int .i64 (f : Int)] 3) ∧ Row X (w.heap.size + 1 + 1) (.cells #[.string x1, .string x2] 26)) ⟨BW, RWh, RWh, RWh⟩ ?_
  clear hB sB
  rintro V1 ⟨hB, rh, rf, rwd⟩
  have Fh : ∀ X, Row X w.heap.size (.cells #[.string a1, .string a2, .slice p0 m0 c0] 49) → (w.heap.size < X.heap.size ∧ X.cell? ⟨w.heap.size, 0, none⟩ = some (.string a1) ∧ X.cell? ⟨w.heap.size, 1, none⟩ = some (.string a2) ∧ X.cell? ⟨w.heap.size, 2, none⟩ = some (.slice p0 m0 c0) ∧ X.frozen? ⟨w.heap.size, 0, none⟩ = false ∧ X.frozen? ⟨w.heap.size, 1, none⟩ = false ∧ X.frozen? ⟨w.heap.size, 2, none⟩ = false) := fun X h => ⟨h.1, Row.cell_at h 0 rfl, Row.cell_at h 1 rfl, Row.cell_at h 2 rfl, frozen_of_row _ _ 0 _ _ h.2, frozen_of_row _ _ 1 _ _ h.2, frozen_of_row _ _ 2 _ _ h.2⟩
  obtain ⟨sh, ch0, ch1, ch2, fh0, fh1, fh2⟩ := Fh _ rh
  have Ff : ∀ X, Row X (w.heap.size + 1) (.cells #[.int .i64 (f : Int)] 3) → (w.heap.size + 1 < X.heap.size ∧ X.cell? ⟨w.heap.size + 1, 0, none⟩ = some (.int .i64 (f : Int))) := fun X h => ⟨h.1, Row.cell_at h 0 rfl⟩
  obtain ⟨sf, cf0⟩ := Ff _ rf
  have Fwd : ∀ X, Row X (w.heap.size + 1 + 1) (.cells #[.string x1, .string x2] 26) → (w.heap.size + 1 + 1 < X.heap.size ∧ X.cell? ⟨w.heap.size + 1 + 1, 0, none⟩ = some (.string x1) ∧ X.cell? ⟨w.heap.size + 1 + 1, 1, none⟩ = some (.string x2)) := fun X h => ⟨h.1, Row.cell_at h 0 rfl, Row.cell_at h 1 rfl⟩
  obtain ⟨swd, cwd0, cwd1⟩ := Fwd _ rwd
  have hk0 := rwd.1
  refine (MK _ hB).mono ?_
  rintro e W2 ⟨p, c, hown, rfl, h1⟩
  clear sh ch0 ch1 ch2 fh0 fh1 fh2
  clear sf cf0
  clear swd cwd0 cwd1
  replace hB := hB.trans (h1.mono hB.size)
  replace rh := Row.below rh h1
  replace rf := Row.below rf h1
  replace rwd := Row.below rwd h1
  clear h1
  obtain ⟨sh, ch0, ch1, ch2, fh0, fh1, fh2⟩ := Fh _ rh
  obtain ⟨sf, cf0⟩ := Ff _ rf
  obtain ⟨swd, cwd0, cwd1⟩ := Fwd _ rwd
  go_wp2_with fail
  have dh_u : w.heap.size < W2.heap.size := by omega
  have sB := hB.size
  refine world_cut (fun X => Below w.heap.size w X ∧ Row X w.heap.size (.cells #[.string s1, .string s2, .slice p k c] 49) ∧ Row X (w.heap.size + 1) (.cells #[.int .i64 (f : Int)] 3) ∧ Row X (w.heap.size + 1 + 1) (.cells #[.string x1, .string x2] 26) ∧ Row X W2.heap.size (.cells #[.func (.func 86) #[] #[.pointer (some ⟨w.heap.size, 0, none⟩), .pointer (some ⟨w.heap.size + 1, 0, none⟩), .pointer (some ⟨w.heap.size + 1 + 1, 0, none⟩)]] 114) ∧ X.ownsRow V1.heap.size 53 5 (.slice p k c) k xs) ⟨BW, RWh, RWh, RWh, RWh, OW⟩ ?_
  clear rh
  clear sh ch0 ch1 ch2 fh0 fh1 fh2
  clear rf
  clear sf cf0
  clear rwd
  clear swd cwd0 cwd1
  clear hB sB hown
  rintro V3 ⟨hB, rh, rf, rwd, ru, hown⟩
  clear Fh
  have Fh : ∀ X, Row X w.heap.size (.cells #[.string s1, .string s2, .slice p k c] 49) → (w.heap.size < X.heap.size ∧ X.cell? ⟨w.heap.size, 0, none⟩ = some (.string s1) ∧ X.cell? ⟨w.heap.size, 1, none⟩ = some (.string s2) ∧ X.cell? ⟨w.heap.size, 2, none⟩ = some (.slice p k c) ∧ X.frozen? ⟨w.heap.size, 0, none⟩ = false ∧ X.frozen? ⟨w.heap.size, 1, none⟩ = false ∧ X.frozen? ⟨w.heap.size, 2, none⟩ = false) := fun X h => ⟨h.1, Row.cell_at h 0 rfl, Row.cell_at h 1 rfl, Row.cell_at h 2 rfl, frozen_of_row _ _ 0 _ _ h.2, frozen_of_row _ _ 1 _ _ h.2, frozen_of_row _ _ 2 _ _ h.2⟩
  obtain ⟨sh, ch0, ch1, ch2, fh0, fh1, fh2⟩ := Fh _ rh
  obtain ⟨sf, cf0⟩ := Ff _ rf
  obtain ⟨swd, cwd0, cwd1⟩ := Fwd _ rwd
  have Fu : ∀ X, Row X W2.heap.size (.cells #[.func (.func 86) #[] #[.pointer (some ⟨w.heap.size, 0, none⟩), .pointer (some ⟨w.heap.size + 1, 0, none⟩), .pointer (some ⟨w.heap.size + 1 + 1, 0, none⟩)]] 114) → (W2.heap.size < X.heap.size ∧ X.cell? ⟨W2.heap.size, 0, none⟩ = some (.func (.func 86) #[] #[.pointer (some ⟨w.heap.size, 0, none⟩), .pointer (some ⟨w.heap.size + 1, 0, none⟩), .pointer (some ⟨w.heap.size + 1 + 1, 0, none⟩)])) := fun X h => ⟨h.1, Row.cell_at h 0 rfl⟩
  obtain ⟨su, cu0⟩ := Fu _ ru
  refine (MV _ hB).mono ?_
  rintro e W4 ⟨rfl, h1⟩
  clear sh ch0 ch1 ch2 fh0 fh1 fh2
  clear sf cf0
  clear swd cwd0 cwd1
  clear su cu0
  replace hB := hB.trans (h1.mono hB.size)
  replace rh := Row.below rh h1
  replace rf := Row.below rf h1
  replace rwd := Row.below rwd h1
  replace ru := Row.below ru h1
  replace hown := own_later hown h1
  clear h1
  obtain ⟨sh, ch0, ch1, ch2, fh0, fh1, fh2⟩ := Fh _ rh
  obtain ⟨sf, cf0⟩ := Ff _ rf
  obtain ⟨swd, cwd0, cwd1⟩ := Fwd _ rwd
  obtain ⟨su, cu0⟩ := Fu _ ru
  go_wp2_with fail
  refine (MW p c _ _ _ _ _ hown rh rf rwd hB).mono ?_
  rintro e W5 ⟨rfl, h1⟩
  clear sh ch0 ch1 ch2 fh0 fh1 fh2
  clear sf cf0
  clear swd cwd0 cwd1
  clear su cu0
  replace hB := hB.trans (h1.mono hB.size)
  replace rh := Row.below rh h1
  replace rf := Row.below rf h1
  replace rwd := Row.below rwd h1
  replace ru := Row.below ru h1
  replace hown := own_later hown h1
  clear h1
  obtain ⟨sh, ch0, ch1, ch2, fh0, fh1, fh2⟩ := Fh _ rh
  obtain ⟨sf, cf0⟩ := Ff _ rf
  obtain ⟨swd, cwd0, cwd1⟩ := Fwd _ rwd
  obtain ⟨su, cu0⟩ := Fu _ ru
  have HO := Lib.hid hown
  obtain ⟨V5, hV5⟩ : ∃ x : World, x = W5 := ⟨_, rfl⟩
  subst hV5
  have eg : ∀ args w, (callFunc 88 args).run Tryz.prog w = .ok (.enter 88 args) w := enters_of Tryz.func88 (by kernel_rfl) rfl
  have MS := search_any (1000000 - f) 88 #[.pointer (some ⟨W2.heap.size, 0, none⟩)] (fun i => pr (i + 1)) V5 eg (by omega) (fun W i hi hW => until2 (by omega) (pr (i + 1)) _ (w.heap.size) (w.heap.size + 1) (w.heap.size + 1 + 1) W (Row.below ru hW) (fun X hX => HI2.out p c _ _ _ _ (i + 1) X (by omega) (own_later (own_later HO.out hW) hX) (Row.below (Row.below rh hW) hX) (Row.below (Row.below rf hW) hX) (Row.below (Row.below rwd hW) hX) (hB.trans ((hW.trans (hX.mono hW.size)).mono hB.size)))) hmono
  clear hmono MW
  go_wp2_with fail
  refine (MS).mono ?_
  rintro e W6 ⟨⟨N, rfl, hN, hlo, hhi⟩, h1⟩
  clear sh ch0 ch1 ch2 fh0 fh1 fh2
  clear sf cf0
  clear swd cwd0 cwd1
  clear su cu0
  replace hB := hB.trans (h1.mono hB.size)
  replace rh := Row.below rh h1
  replace rf := Row.below rf h1
  replace rwd := Row.below rwd h1
  replace ru := Row.below ru h1
  replace hown := own_later hown h1
  clear h1
  obtain ⟨sh, ch0, ch1, ch2, fh0, fh1, fh2⟩ := Fh _ rh
  obtain ⟨sf, cf0⟩ := Ff _ rf
  obtain ⟨swd, cwd0, cwd1⟩ := Fwd _ rwd
  obtain ⟨su, cu0⟩ := Fu _ ru
  have HR := Lib.hid (And.intro hN (And.intro hlo hhi))
  have hadd : IntKind.i64.wrap ((f : Int) + (N : Int)) = (f : Int) + (N : Int) := by rw [IntKind.wrap_i64]; omega
  clear hlo hhi hN
  go_wp2
  refine bodyPost_ret (v := .tuple #[.int .i64 ((f : Int) + (N : Int)), .bool true]) ?res rfl ⟨N, HR.out.1, HR.out.2.1, HR.out.2.2, rfl, hB⟩
  case res => simp [results, Tryz.results33, go_sem]
end Go.Proofs.YtngohpgkceedeaaGreatDoor
