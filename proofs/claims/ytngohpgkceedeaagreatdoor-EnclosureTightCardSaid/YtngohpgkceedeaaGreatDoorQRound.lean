/-
  Package rational: the multiples of a grid below and above a fraction.
-/
import Derived.Test.YtngohpgkceedeaaGreatDoorQTool
import Derived.Test.YtngohpgkceedeaaGreatDoorQCheck1
import Derived.Test.YtngohpgkceedeaaGreatDoorQPlain6
import Derived.Test.YtngohpgkceedeaaGreatDoorRefO
import Derived.Test.YtngohpgkceedeaaGreatDoorLaw1
import Derived.Test.YtngohpgkceedeaaGreatDoorChains
namespace Go.Proofs.YtngohpgkceedeaaGreatDoor
open Go Go.RowKit Go.Lib Go.Shelf

theorem val10_zeros' : ∀ p, val10 (List.replicate p 0) = 0
  | 0 => rfl
  | p + 1 => by rw [List.replicate_succ]; show 0 + 10 * val10 (List.replicate p 0) = 0; rw [val10_zeros' p]
/-- 1 with zeros behind it. -/
theorem is_tens (p : Nat) : Is ⟨(49 :: List.replicate p 48).toArray⟩ (TT p) := by
  have hs : Small10 (List.replicate p 0 ++ [1]) := Small10.append (fun d hd => by rw [(List.mem_replicate.1 hd).2]; decide) (Small10.mk (by decide) small10_nil)
  have hn : Norm10 (List.replicate p 0 ++ [1]) := ⟨hs, by simp⟩
  have h := tx_itoa false hn
  rw [tx_pre false (by simp)] at h
  have ht : txt10 (List.replicate p 0 ++ [1]) = 49 :: List.replicate p 48 := by rw [txt10_snoc]; simp [txt10]
  have hv : val10 (List.replicate p 0 ++ [1]) = 10 ^ p := by rw [val10_snoc, val10_zeros', List.length_replicate, Nat.zero_add, Nat.one_mul]
  rw [ht, hv] at h
  unfold Is TT
  rw [List.toList_toArray]
  simpa [pre] using h
theorem tens_S (p : Nat) : (⟨#[49]⟩ : ByteArray) ++ ⟨(Lib.repeatL [48] p).toArray⟩ = S (TT p) := by
  rw [← (is_tens p).eq, repeat_zeros]
  apply ba_ext
  simp [ByteArray.data_append]
set_option maxRecDepth 100000 in
set_option maxHeartbeats 4000000 in
theorem round_down {j : Nat} (r : Rat) (p : Nat) (hr : QDig j r) (hp : p ≤ 30) (hjp : j + p + 1 ≤ 200) (w : World) (he : Env w) :
    Calls Tryz.prog 132 #[Q r, .int .i64 (p : Int), .bool false] w (QOk (dn r (TT p)) w) := by
  have i1 : Is ⟨#[49]⟩ 1 := is_lit (by decide) (by decide)
  have f1 : Fits 1 := fits_lit (by decide)
  have d1 : decide ((p : Int) < 0) = false := decide_eq_false (by omega)
  have d2 : decide ((30 : Int) < (p : Int)) = false := decide_eq_false (by omega)
  have hq := hr.mono (show j ≤ 200 by omega)
  have ia := is_S r.num
  have id_ := is_S (r.den : Int)
  have it := is_S (TT p)
  have fa : Fits r.num := hq.1
  have fd : Fits (r.den : Int) := hq.2
  have ft : Fits (TT p) := (TT_dig p).fits (by omega)
  obtain ⟨n, hn⟩ : ∃ n, n = r.num * TT p := ⟨_, rfl⟩
  have fn : Fits n := by rw [hn]; exact (TT_mul_dig hr.1).fits (by omega)
  obtain ⟨q, hqe⟩ : ∃ q, q = n / (r.den : Int) := ⟨_, rfl⟩
  obtain ⟨z, hz⟩ : ∃ z, z = n % (r.den : Int) := ⟨_, rfl⟩
  have hD : downI r (TT p) = q := by unfold downI; rw [hqe, hn]
  have dq : Dig (j + p) q := by rw [← hD]; exact downI_dig hr
  have fq : Fits q := dq.fits (by omega)
  have iq := is_S q
  have in_ := is_S n
  have d0 := den_pos r
  have N1 := Lib.hid hn.symm
  have N2 := Lib.hid hqe.symm
  have N3 := Lib.hid hz.symm
  have E : Rat.divInt q (TT p) = dn r (TT p) := by unfold dn; rw [hD]
  have hT := TT_pos p
  have hT0 : TT p ≠ 0 := by omega
  have T0 := Lib.hid hT0
  have D0 : Hid ((r.den : Int) ≠ 0) := Lib.hid (by omega)
  have RP := fun W => Tryz.strings_Repeat ⟨#[48]⟩ p W (by omega) (by simp [ByteArray.size]; omega)
  have TS := tens_S p
  clear hn hqe hz hD dq d0 hT hT0
  rw [← E]
  have EE := Lib.hid E
  clear E
  have RPL := Lib.hid TS
  clear TS
  have hB : Below w.heap.size w w := Below.refl _ _
  show Calls Tryz.prog 132 #[.agg #[.string (S r.num), .string (S (r.den : Int))], .int .i64 (p : Int), .bool false] w _
  unfold QOk
  go_enter Tryz.func132, Tryz.ntmps132
  go_wp2_with fail
  have sB := hB.size
  refine world_cut (fun X => Below w.heap.size w X ∧ Row X w.heap.size (.cells #[.string (S r.num), .string (S (r.den : Int))] 26) ∧ Row X (w.heap.size + 1) (.cells #[.string ⟨#[]⟩, .string ⟨#[]⟩] 26) ∧ Row X (w.heap.size + 1 + 1) (.cells #[.bool false] 100) ∧ Row X (w.heap.size + 1 + 1 + 1) (.cells #[.string (S r.num), .string (S (r.den : Int))] 26)) ⟨C1_hB, C2, C2, C2, C2⟩ ?_
  clear hB sB
  rintro V1 ⟨hB, rr, ro, rk, rs⟩
  obtain ⟨sr, cr0, cr1, fr0, fr1⟩ := Row.cells2 rr
  obtain ⟨so, co0, co1, fo0, fo1⟩ := Row.cells2 ro
  obtain ⟨sk, ck0, fk0⟩ := Row.cells1 rk
  obtain ⟨ss, cs0, cs1, fs0, fs1⟩ := Row.cells2 rs
  refine (wcheck1 _ _ r hq _ (he.below hB) rk rs).mono ?_
  rintro e W1 ⟨rfl, h1⟩
  clear sr cr0 cr1 fr0 fr1
  clear so co0 co1 fo0 fo1
  clear sk ck0 fk0
  clear ss cs0 cs1 fs0 fs1
  replace hB := hB.trans (h1.mono hB.size)
  replace rr := Row.below rr h1
  replace ro := Row.below ro h1
  replace rk := Row.below rk h1
  replace rs := Row.below rs h1
  clear h1
  obtain ⟨sr, cr0, cr1, fr0, fr1⟩ := Row.cells2 rr
  obtain ⟨so, co0, co1, fo0, fo1⟩ := Row.cells2 ro
  obtain ⟨sk, ck0, fk0⟩ := Row.cells1 rk
  obtain ⟨ss, cs0, cs1, fs0, fs1⟩ := Row.cells2 rs
  clear rs ss cs0 cs1 fs0 fs1
  go_wp2_with fail
  refine (RP _).mono ?_
  rintro e W2 ⟨rfl, h1⟩
  clear sr cr0 cr1 fr0 fr1
  clear so co0 co1 fo0 fo1
  clear sk ck0 fk0
  replace hB := hB.trans (h1.mono hB.size)
  replace rr := Row.below rr h1
  replace ro := Row.below ro h1
  replace rk := Row.below rk h1
  clear h1
  obtain ⟨sr, cr0, cr1, fr0, fr1⟩ := Row.cells2 rr
  obtain ⟨so, co0, co1, fo0, fo1⟩ := Row.cells2 ro
  obtain ⟨sk, ck0, fk0⟩ := Row.cells1 rk
  obtain ⟨z0, hz0⟩ : ∃ x : ByteArray, x = ⟨(Lib.repeatL [48] p).toArray⟩ := ⟨_, rfl⟩
  rw [← hz0]
  have RR : ((⟨#[49]⟩ : ByteArray) ++ z0) = S (TT p) := by rw [hz0]; exact RPL.out
  have zs : z0.size ≤ 30 := by rw [hz0, repeat_zeros]; simp [ByteArray.size]; omega
  clear hz0
  go_wp2_with fail
  try rw [RR]
  refine (wmul _ ia it N1 fa ft fn _ (he.below hB) rk).mono ?_
  rintro e W3 ⟨rfl, h1⟩
  clear sr cr0 cr1 fr0 fr1
  clear so co0 co1 fo0 fo1
  clear sk ck0 fk0
  replace hB := hB.trans (h1.mono hB.size)
  replace rr := Row.below rr h1
  replace ro := Row.below ro h1
  replace rk := Row.below rk h1
  clear h1
  obtain ⟨sr, cr0, cr1, fr0, fr1⟩ := Row.cells2 rr
  obtain ⟨so, co0, co1, fo0, fo1⟩ := Row.cells2 ro
  obtain ⟨sk, ck0, fk0⟩ := Row.cells1 rk
  go_wp2_with fail
  refine (divS in_ id_ N2 N3 fn fd D0 _ (he.below hB)).mono ?_
  rintro e W2 ⟨rfl, h1⟩
  clear sr cr0 cr1 fr0 fr1
  clear so co0 co1 fo0 fo1
  clear sk ck0 fk0
  replace hB := hB.trans (h1.mono hB.size)
  replace rr := Row.below rr h1
  replace ro := Row.below ro h1
  replace rk := Row.below rk h1
  clear h1
  obtain ⟨sr, cr0, cr1, fr0, fr1⟩ := Row.cells2 rr
  obtain ⟨so, co0, co1, fo0, fo1⟩ := Row.cells2 ro
  obtain ⟨sk, ck0, fk0⟩ := Row.cells1 rk
  go_wp2_with fail
  have sB := hB.size
  refine world_cut (fun X => Below w.heap.size w X ∧ Row X w.heap.size (.cells #[.string (S r.num), .string (S (r.den : Int))] 26) ∧ Row X (w.heap.size + 1) (.cells #[.string ⟨#[]⟩, .string ⟨#[]⟩] 26) ∧ Row X (w.heap.size + 1 + 1) (.cells #[.bool false] 100)) ⟨C1_hB, C3_rr, C3_ro, C3_rk⟩ ?_
  clear rr
  clear sr cr0 cr1 fr0 fr1
  clear ro
  clear so co0 co1 fo0 fo1
  clear rk
  clear sk ck0 fk0
  clear hB sB
  rintro V3 ⟨hB, rr, ro, rk⟩
  obtain ⟨sr, cr0, cr1, fr0, fr1⟩ := Row.cells2 rr
  obtain ⟨so, co0, co1, fo0, fo1⟩ := Row.cells2 ro
  obtain ⟨sk, ck0, fk0⟩ := Row.cells1 rk
  refine (wreduced _ iq it fq ft T0.out _ (he.below hB) rk).mono ?_
  rintro e W6 ⟨rfl, h1⟩
  clear sr cr0 cr1 fr0 fr1
  clear so co0 co1 fo0 fo1
  clear sk ck0 fk0
  replace hB := hB.trans (h1.mono hB.size)
  replace rr := Row.below rr h1
  replace ro := Row.below ro h1
  replace rk := Row.below rk h1
  clear h1
  obtain ⟨sr, cr0, cr1, fr0, fr1⟩ := Row.cells2 rr
  obtain ⟨so, co0, co1, fo0, fo1⟩ := Row.cells2 ro
  obtain ⟨sk, ck0, fk0⟩ := Row.cells1 rk
  unfold Q
  generalize hqx : Rat.divInt q (TT p) = x at *
  have HQX := Lib.hid hqx
  clear hqx
  go_wp2
  have sB := hB.size
  refine post_cut (fun X => Below w.heap.size w X ∧ Row X w.heap.size (.cells #[.string (S r.num), .string (S (r.den : Int))] 26) ∧ Row X (w.heap.size + 1) (.cells #[.string (S x.num), .string (S (x.den : Int))] 26) ∧ Row X (w.heap.size + 1 + 1) (.cells #[.bool false] 100)) ⟨C1_hB, C3_rr, C3_ro, C3_rk⟩ ?_
  clear rr
  clear sr cr0 cr1 fr0 fr1
  clear ro
  clear so co0 co1 fo0 fo1
  clear rk
  clear sk ck0 fk0
  clear hB sB
  rintro V4 ⟨hB, rr, ro, rk⟩
  obtain ⟨sr, cr0, cr1, fr0, fr1⟩ := Row.cells2 rr
  obtain ⟨so, co0, co1, fo0, fo1⟩ := Row.cells2 ro
  obtain ⟨sk, ck0, fk0⟩ := Row.cells1 rk
  refine bodyPost_ret (v := .tuple #[.agg #[.string (S x.num), .string (S (x.den : Int))], .int .i64 0]) ?res rfl ⟨by rw [HQX.out]; rfl, hB⟩
  case res => simp [results, Tryz.results132, go_sem, co0, co1]
set_option maxRecDepth 100000 in
set_option maxHeartbeats 4000000 in
theorem round_exact {j : Nat} (r : Rat) (p : Nat) (hr : QDig j r) (hp : p ≤ 30) (hjp : j + p + 1 ≤ 200) (hz0 : r.num * TT p % (r.den : Int) = 0) (w : World) (he : Env w) :
    Calls Tryz.prog 132 #[Q r, .int .i64 (p : Int), .bool true] w (QOk (uq r (TT p)) w) := by
  have i1 : Is ⟨#[49]⟩ 1 := is_lit (by decide) (by decide)
  have f1 : Fits 1 := fits_lit (by decide)
  have d1 : decide ((p : Int) < 0) = false := decide_eq_false (by omega)
  have d2 : decide ((30 : Int) < (p : Int)) = false := decide_eq_false (by omega)
  have hq := hr.mono (show j ≤ 200 by omega)
  have ia := is_S r.num
  have id_ := is_S (r.den : Int)
  have it := is_S (TT p)
  have fa : Fits r.num := hq.1
  have fd : Fits (r.den : Int) := hq.2
  have ft : Fits (TT p) := (TT_dig p).fits (by omega)
  obtain ⟨n, hn⟩ : ∃ n, n = r.num * TT p := ⟨_, rfl⟩
  have fn : Fits n := by rw [hn]; exact (TT_mul_dig hr.1).fits (by omega)
  obtain ⟨q, hqe⟩ : ∃ q, q = n / (r.den : Int) := ⟨_, rfl⟩
  obtain ⟨z, hz⟩ : ∃ z, z = n % (r.den : Int) := ⟨_, rfl⟩
  have hD : downI r (TT p) = q := by unfold downI; rw [hqe, hn]
  have dq : Dig (j + p) q := by rw [← hD]; exact downI_dig hr
  have fq : Fits q := dq.fits (by omega)
  have iq := is_S q
  have in_ := is_S n
  have d0 := den_pos r
  have N1 := Lib.hid hn.symm
  have N2 := Lib.hid hqe.symm
  have N3 := Lib.hid hz.symm
  have hu : upI r (TT p) = q := by unfold upI; rw [hD, if_pos hz0, Int.add_zero]
  have E : Rat.divInt q (TT p) = uq r (TT p) := by unfold uq; rw [hu]
  have zz : ((S z).toList == [48]) = true := S_eq0 (by rw [hz, hn]; exact hz0)
  clear hu
  have hT := TT_pos p
  have hT0 : TT p ≠ 0 := by omega
  have T0 := Lib.hid hT0
  have D0 : Hid ((r.den : Int) ≠ 0) := Lib.hid (by omega)
  have RP := fun W => Tryz.strings_Repeat ⟨#[48]⟩ p W (by omega) (by simp [ByteArray.size]; omega)
  have TS := tens_S p
  clear hn hqe hz hD dq d0 hT hT0 hz0
  rw [← E]
  have EE := Lib.hid E
  clear E
  have RPL := Lib.hid TS
  clear TS
  have hB : Below w.heap.size w w := Below.refl _ _
  show Calls Tryz.prog 132 #[.agg #[.string (S r.num), .string (S (r.den : Int))], .int .i64 (p : Int), .bool true] w _
  unfold QOk
  go_enter Tryz.func132, Tryz.ntmps132
  go_wp2_with fail
  have sB := hB.size
  refine world_cut (fun X => Below w.heap.size w X ∧ Row X w.heap.size (.cells #[.string (S r.num), .string (S (r.den : Int))] 26) ∧ Row X (w.heap.size + 1) (.cells #[.string ⟨#[]⟩, .string ⟨#[]⟩] 26) ∧ Row X (w.heap.size + 1 + 1) (.cells #[.bool false] 100) ∧ Row X (w.heap.size + 1 + 1 + 1) (.cells #[.string (S r.num), .string (S (r.den : Int))] 26)) ⟨C1_hB, C2, C2, C2, C2⟩ ?_
  clear hB sB
  rintro V1 ⟨hB, rr, ro, rk, rs⟩
  obtain ⟨sr, cr0, cr1, fr0, fr1⟩ := Row.cells2 rr
  obtain ⟨so, co0, co1, fo0, fo1⟩ := Row.cells2 ro
  obtain ⟨sk, ck0, fk0⟩ := Row.cells1 rk
  obtain ⟨ss, cs0, cs1, fs0, fs1⟩ := Row.cells2 rs
  refine (wcheck1 _ _ r hq _ (he.below hB) rk rs).mono ?_
  rintro e W1 ⟨rfl, h1⟩
  clear sr cr0 cr1 fr0 fr1
  clear so co0 co1 fo0 fo1
  clear sk ck0 fk0
  clear ss cs0 cs1 fs0 fs1
  replace hB := hB.trans (h1.mono hB.size)
  replace rr := Row.below rr h1
  replace ro := Row.below ro h1
  replace rk := Row.below rk h1
  replace rs := Row.below rs h1
  clear h1
  obtain ⟨sr, cr0, cr1, fr0, fr1⟩ := Row.cells2 rr
  obtain ⟨so, co0, co1, fo0, fo1⟩ := Row.cells2 ro
  obtain ⟨sk, ck0, fk0⟩ := Row.cells1 rk
  obtain ⟨ss, cs0, cs1, fs0, fs1⟩ := Row.cells2 rs
  clear rs ss cs0 cs1 fs0 fs1
  go_wp2_with fail
  refine (RP _).mono ?_
  rintro e W2 ⟨rfl, h1⟩
  clear sr cr0 cr1 fr0 fr1
  clear so co0 co1 fo0 fo1
  clear sk ck0 fk0
  replace hB := hB.trans (h1.mono hB.size)
  replace rr := Row.below rr h1
  replace ro := Row.below ro h1
  replace rk := Row.below rk h1
  clear h1
  obtain ⟨sr, cr0, cr1, fr0, fr1⟩ := Row.cells2 rr
  obtain ⟨so, co0, co1, fo0, fo1⟩ := Row.cells2 ro
  obtain ⟨sk, ck0, fk0⟩ := Row.cells1 rk
  obtain ⟨z0, hz0⟩ : ∃ x : ByteArray, x = ⟨(Lib.repeatL [48] p).toArray⟩ := ⟨_, rfl⟩
  rw [← hz0]
  have RR : ((⟨#[49]⟩ : ByteArray) ++ z0) = S (TT p) := by rw [hz0]; exact RPL.out
  have zs : z0.size ≤ 30 := by rw [hz0, repeat_zeros]; simp [ByteArray.size]; omega
  clear hz0
  go_wp2_with fail
  try rw [RR]
  refine (wmul _ ia it N1 fa ft fn _ (he.below hB) rk).mono ?_
  rintro e W3 ⟨rfl, h1⟩
  clear sr cr0 cr1 fr0 fr1
  clear so co0 co1 fo0 fo1
  clear sk ck0 fk0
  replace hB := hB.trans (h1.mono hB.size)
  replace rr := Row.below rr h1
  replace ro := Row.below ro h1
  replace rk := Row.below rk h1
  clear h1
  obtain ⟨sr, cr0, cr1, fr0, fr1⟩ := Row.cells2 rr
  obtain ⟨so, co0, co1, fo0, fo1⟩ := Row.cells2 ro
  obtain ⟨sk, ck0, fk0⟩ := Row.cells1 rk
  go_wp2_with fail
  refine (divS in_ id_ N2 N3 fn fd D0 _ (he.below hB)).mono ?_
  rintro e W2 ⟨rfl, h1⟩
  clear sr cr0 cr1 fr0 fr1
  clear so co0 co1 fo0 fo1
  clear sk ck0 fk0
  replace hB := hB.trans (h1.mono hB.size)
  replace rr := Row.below rr h1
  replace ro := Row.below ro h1
  replace rk := Row.below rk h1
  clear h1
  obtain ⟨sr, cr0, cr1, fr0, fr1⟩ := Row.cells2 rr
  obtain ⟨so, co0, co1, fo0, fo1⟩ := Row.cells2 ro
  obtain ⟨sk, ck0, fk0⟩ := Row.cells1 rk
  go_wp2_with fail
  have sB := hB.size
  refine world_cut (fun X => Below w.heap.size w X ∧ Row X w.heap.size (.cells #[.string (S r.num), .string (S (r.den : Int))] 26) ∧ Row X (w.heap.size + 1) (.cells #[.string ⟨#[]⟩, .string ⟨#[]⟩] 26) ∧ Row X (w.heap.size + 1 + 1) (.cells #[.bool false] 100)) ⟨C1_hB, C3_rr, C3_ro, C3_rk⟩ ?_
  clear rr
  clear sr cr0 cr1 fr0 fr1
  clear ro
  clear so co0 co1 fo0 fo1
  clear rk
  clear sk ck0 fk0
  clear hB sB
  rintro V3 ⟨hB, rr, ro, rk⟩
  obtain ⟨sr, cr0, cr1, fr0, fr1⟩ := Row.cells2 rr
  obtain ⟨so, co0, co1, fo0, fo1⟩ := Row.cells2 ro
  obtain ⟨sk, ck0, fk0⟩ := Row.cells1 rk
  refine (wreduced _ iq it fq ft T0.out _ (he.below hB) rk).mono ?_
  rintro e W6 ⟨rfl, h1⟩
  clear sr cr0 cr1 fr0 fr1
  clear so co0 co1 fo0 fo1
  clear sk ck0 fk0
  replace hB := hB.trans (h1.mono hB.size)
  replace rr := Row.below rr h1
  replace ro := Row.below ro h1
  replace rk := Row.below rk h1
  clear h1
  obtain ⟨sr, cr0, cr1, fr0, fr1⟩ := Row.cells2 rr
  obtain ⟨so, co0, co1, fo0, fo1⟩ := Row.cells2 ro
  obtain ⟨sk, ck0, fk0⟩ := Row.cells1 rk
  unfold Q
  generalize hqx : Rat.divInt q (TT p) = x at *
  have HQX := Lib.hid hqx
  clear hqx
  go_wp2
  have sB := hB.size
  refine post_cut (fun X => Below w.heap.size w X ∧ Row X w.heap.size (.cells #[.string (S r.num), .string (S (r.den : Int))] 26) ∧ Row X (w.heap.size + 1) (.cells #[.string (S x.num), .string (S (x.den : Int))] 26) ∧ Row X (w.heap.size + 1 + 1) (.cells #[.bool false] 100)) ⟨C1_hB, C3_rr, C3_ro, C3_rk⟩ ?_
  clear rr
  clear sr cr0 cr1 fr0 fr1
  clear ro
  clear so co0 co1 fo0 fo1
  clear rk
  clear sk ck0 fk0
  clear hB sB
  rintro V4 ⟨hB, rr, ro, rk⟩
  obtain ⟨sr, cr0, cr1, fr0, fr1⟩ := Row.cells2 rr
  obtain ⟨so, co0, co1, fo0, fo1⟩ := Row.cells2 ro
  obtain ⟨sk, ck0, fk0⟩ := Row.cells1 rk
  refine bodyPost_ret (v := .tuple #[.agg #[.string (S x.num), .string (S (x.den : Int))], .int .i64 0]) ?res rfl ⟨by rw [HQX.out]; rfl, hB⟩
  case res => simp [results, Tryz.results132, go_sem, co0, co1]
set_option maxRecDepth 100000 in
set_option maxHeartbeats 4000000 in
theorem round_up {j : Nat} (r : Rat) (p : Nat) (hr : QDig j r) (hp : p ≤ 30) (hjp : j + p + 1 ≤ 200) (hz0 : ¬ r.num * TT p % (r.den : Int) = 0) (w : World) (he : Env w) :
    Calls Tryz.prog 132 #[Q r, .int .i64 (p : Int), .bool true] w (QOk (uq r (TT p)) w) := by
  have i1 : Is ⟨#[49]⟩ 1 := is_lit (by decide) (by decide)
  have f1 : Fits 1 := fits_lit (by decide)
  have d1 : decide ((p : Int) < 0) = false := decide_eq_false (by omega)
  have d2 : decide ((30 : Int) < (p : Int)) = false := decide_eq_false (by omega)
  have hq := hr.mono (show j ≤ 200 by omega)
  have ia := is_S r.num
  have id_ := is_S (r.den : Int)
  have it := is_S (TT p)
  have fa : Fits r.num := hq.1
  have fd : Fits (r.den : Int) := hq.2
  have ft : Fits (TT p) := (TT_dig p).fits (by omega)
  obtain ⟨n, hn⟩ : ∃ n, n = r.num * TT p := ⟨_, rfl⟩
  have fn : Fits n := by rw [hn]; exact (TT_mul_dig hr.1).fits (by omega)
  obtain ⟨q, hqe⟩ : ∃ q, q = n / (r.den : Int) := ⟨_, rfl⟩
  obtain ⟨z, hz⟩ : ∃ z, z = n % (r.den : Int) := ⟨_, rfl⟩
  have hD : downI r (TT p) = q := by unfold downI; rw [hqe, hn]
  have dq : Dig (j + p) q := by rw [← hD]; exact downI_dig hr
  have fq : Fits q := dq.fits (by omega)
  have iq := is_S q
  have in_ := is_S n
  have d0 := den_pos r
  have N1 := Lib.hid hn.symm
  have N2 := Lib.hid hqe.symm
  have N3 := Lib.hid hz.symm
  have hu : upI r (TT p) = q + 1 := by unfold upI; rw [hD, if_neg hz0]
  have E : Rat.divInt (q + 1) (TT p) = uq r (TT p) := by unfold uq; rw [hu]
  have fq1 : Fits (q + 1) := by rw [← hu]; exact (upI_dig hr).fits (by omega)
  have iq1 := is_S (q + 1)
  have zz : ((S z).toList == [48]) = false := S_ne0 (by rw [hz, hn]; exact hz0)
  clear hu
  have eg : ∀ args w, (callFunc 78 args).run Tryz.prog w = .ok (.enter 78 args) w := enters_of Tryz.func78 (by kernel_rfl) rfl
  have G := Lib.hid (rfl : q + 1 = q + 1)
  obtain ⟨q1, hq1⟩ : ∃ x, x = q + 1 := ⟨_, rfl⟩
  rw [← hq1] at E fq1 iq1
  have G1 := Lib.hid hq1.symm
  clear hq1 G
  have hT := TT_pos p
  have hT0 : TT p ≠ 0 := by omega
  have T0 := Lib.hid hT0
  have D0 : Hid ((r.den : Int) ≠ 0) := Lib.hid (by omega)
  have RP := fun W => Tryz.strings_Repeat ⟨#[48]⟩ p W (by omega) (by simp [ByteArray.size]; omega)
  have TS := tens_S p
  clear hn hqe hz hD dq d0 hT hT0 hz0
  rw [← E]
  have EE := Lib.hid E
  clear E
  have RPL := Lib.hid TS
  clear TS
  have hB : Below w.heap.size w w := Below.refl _ _
  show Calls Tryz.prog 132 #[.agg #[.string (S r.num), .string (S (r.den : Int))], .int .i64 (p : Int), .bool true] w _
  unfold QOk
  go_enter Tryz.func132, Tryz.ntmps132
  go_wp2_with fail
  have sB := hB.size
  refine world_cut (fun X => Below w.heap.size w X ∧ Row X w.heap.size (.cells #[.string (S r.num), .string (S (r.den : Int))] 26) ∧ Row X (w.heap.size + 1) (.cells #[.string ⟨#[]⟩, .string ⟨#[]⟩] 26) ∧ Row X (w.heap.size + 1 + 1) (.cells #[.bool false] 100) ∧ Row X (w.heap.size + 1 + 1 + 1) (.cells #[.string (S r.num), .string (S (r.den : Int))] 26)) ⟨C1_hB, C2, C2, C2, C2⟩ ?_
  clear hB sB
  rintro V1 ⟨hB, rr, ro, rk, rs⟩
  obtain ⟨sr, cr0, cr1, fr0, fr1⟩ := Row.cells2 rr
  obtain ⟨so, co0, co1, fo0, fo1⟩ := Row.cells2 ro
  obtain ⟨sk, ck0, fk0⟩ := Row.cells1 rk
  obtain ⟨ss, cs0, cs1, fs0, fs1⟩ := Row.cells2 rs
  refine (wcheck1 _ _ r hq _ (he.below hB) rk rs).mono ?_
  rintro e W1 ⟨rfl, h1⟩
  clear sr cr0 cr1 fr0 fr1
  clear so co0 co1 fo0 fo1
  clear sk ck0 fk0
  clear ss cs0 cs1 fs0 fs1
  replace hB := hB.trans (h1.mono hB.size)
  replace rr := Row.below rr h1
  replace ro := Row.below ro h1
  replace rk := Row.below rk h1
  replace rs := Row.below rs h1
  clear h1
  obtain ⟨sr, cr0, cr1, fr0, fr1⟩ := Row.cells2 rr
  obtain ⟨so, co0, co1, fo0, fo1⟩ := Row.cells2 ro
  obtain ⟨sk, ck0, fk0⟩ := Row.cells1 rk
  obtain ⟨ss, cs0, cs1, fs0, fs1⟩ := Row.cells2 rs
  clear rs ss cs0 cs1 fs0 fs1
  go_wp2_with fail
  refine (RP _).mono ?_
  rintro e W2 ⟨rfl, h1⟩
  clear sr cr0 cr1 fr0 fr1
  clear so co0 co1 fo0 fo1
  clear sk ck0 fk0
  replace hB := hB.trans (h1.mono hB.size)
  replace rr := Row.below rr h1
  replace ro := Row.below ro h1
  replace rk := Row.below rk h1
  clear h1
  obtain ⟨sr, cr0, cr1, fr0, fr1⟩ := Row.cells2 rr
  obtain ⟨so, co0, co1, fo0, fo1⟩ := Row.cells2 ro
  obtain ⟨sk, ck0, fk0⟩ := Row.cells1 rk
  obtain ⟨z0, hz0⟩ : ∃ x : ByteArray, x = ⟨(Lib.repeatL [48] p).toArray⟩ := ⟨_, rfl⟩
  rw [← hz0]
  have RR : ((⟨#[49]⟩ : ByteArray) ++ z0) = S (TT p) := by rw [hz0]; exact RPL.out
  have zs : z0.size ≤ 30 := by rw [hz0, repeat_zeros]; simp [ByteArray.size]; omega
  clear hz0
  go_wp2_with fail
  try rw [RR]
  refine (wmul _ ia it N1 fa ft fn _ (he.below hB) rk).mono ?_
  rintro e W3 ⟨rfl, h1⟩
  clear sr cr0 cr1 fr0 fr1
  clear so co0 co1 fo0 fo1
  clear sk ck0 fk0
  replace hB := hB.trans (h1.mono hB.size)
  replace rr := Row.below rr h1
  replace ro := Row.below ro h1
  replace rk := Row.below rk h1
  clear h1
  obtain ⟨sr, cr0, cr1, fr0, fr1⟩ := Row.cells2 rr
  obtain ⟨so, co0, co1, fo0, fo1⟩ := Row.cells2 ro
  obtain ⟨sk, ck0, fk0⟩ := Row.cells1 rk
  go_wp2_with fail
  refine (divS in_ id_ N2 N3 fn fd D0 _ (he.below hB)).mono ?_
  rintro e W2 ⟨rfl, h1⟩
  clear sr cr0 cr1 fr0 fr1
  clear so co0 co1 fo0 fo1
  clear sk ck0 fk0
  replace hB := hB.trans (h1.mono hB.size)
  replace rr := Row.below rr h1
  replace ro := Row.below ro h1
  replace rk := Row.below rk h1
  clear h1
  obtain ⟨sr, cr0, cr1, fr0, fr1⟩ := Row.cells2 rr
  obtain ⟨so, co0, co1, fo0, fo1⟩ := Row.cells2 ro
  obtain ⟨sk, ck0, fk0⟩ := Row.cells1 rk
  go_wp2_with fail
  have sB := hB.size
  refine world_cut (fun X => Below w.heap.size w X ∧ Row X w.heap.size (.cells #[.string (S r.num), .string (S (r.den : Int))] 26) ∧ Row X (w.heap.size + 1) (.cells #[.string ⟨#[]⟩, .string ⟨#[]⟩] 26) ∧ Row X (w.heap.size + 1 + 1) (.cells #[.bool false] 100)) ⟨C1_hB, C3_rr, C3_ro, C3_rk⟩ ?_
  clear rr
  clear sr cr0 cr1 fr0 fr1
  clear ro
  clear so co0 co1 fo0 fo1
  clear rk
  clear sk ck0 fk0
  clear hB sB
  rintro V3 ⟨hB, rr, ro, rk⟩
  obtain ⟨sr, cr0, cr1, fr0, fr1⟩ := Row.cells2 rr
  obtain ⟨so, co0, co1, fo0, fo1⟩ := Row.cells2 ro
  obtain ⟨sk, ck0, fk0⟩ := Row.cells1 rk
  refine (wdo _ 78 _ _ q1 _ eg rk (addS iq i1 G1 fq f1 fq1 _ (he.below hB))).mono ?_
  rintro e W5 ⟨rfl, h1⟩
  clear sr cr0 cr1 fr0 fr1
  clear so co0 co1 fo0 fo1
  clear sk ck0 fk0
  replace hB := hB.trans (h1.mono hB.size)
  replace rr := Row.below rr h1
  replace ro := Row.below ro h1
  replace rk := Row.below rk h1
  clear h1
  obtain ⟨sr, cr0, cr1, fr0, fr1⟩ := Row.cells2 rr
  obtain ⟨so, co0, co1, fo0, fo1⟩ := Row.cells2 ro
  obtain ⟨sk, ck0, fk0⟩ := Row.cells1 rk
  go_wp2_with fail
  refine (wreduced _ iq1 it fq1 ft T0.out _ (he.below hB) rk).mono ?_
  rintro e W6 ⟨rfl, h1⟩
  clear sr cr0 cr1 fr0 fr1
  clear so co0 co1 fo0 fo1
  clear sk ck0 fk0
  replace hB := hB.trans (h1.mono hB.size)
  replace rr := Row.below rr h1
  replace ro := Row.below ro h1
  replace rk := Row.below rk h1
  clear h1
  obtain ⟨sr, cr0, cr1, fr0, fr1⟩ := Row.cells2 rr
  obtain ⟨so, co0, co1, fo0, fo1⟩ := Row.cells2 ro
  obtain ⟨sk, ck0, fk0⟩ := Row.cells1 rk
  unfold Q
  generalize hqx : Rat.divInt q1 (TT p) = x at *
  have HQX := Lib.hid hqx
  clear hqx
  go_wp2
  have sB := hB.size
  refine post_cut (fun X => Below w.heap.size w X ∧ Row X w.heap.size (.cells #[.string (S r.num), .string (S (r.den : Int))] 26) ∧ Row X (w.heap.size + 1) (.cells #[.string (S x.num), .string (S (x.den : Int))] 26) ∧ Row X (w.heap.size + 1 + 1) (.cells #[.bool false] 100)) ⟨C1_hB, C3_rr, C3_ro, C3_rk⟩ ?_
  clear rr
  clear sr cr0 cr1 fr0 fr1
  clear ro
  clear so co0 co1 fo0 fo1
  clear rk
  clear sk ck0 fk0
  clear hB sB
  rintro V4 ⟨hB, rr, ro, rk⟩
  obtain ⟨sr, cr0, cr1, fr0, fr1⟩ := Row.cells2 rr
  obtain ⟨so, co0, co1, fo0, fo1⟩ := Row.cells2 ro
  obtain ⟨sk, ck0, fk0⟩ := Row.cells1 rk
  refine bodyPost_ret (v := .tuple #[.agg #[.string (S x.num), .string (S (x.den : Int))], .int .i64 0]) ?res rfl ⟨by rw [HQX.out]; rfl, hB⟩
  case res => simp [results, Tryz.results132, go_sem, co0, co1]
theorem round_any {j : Nat} (r : Rat) (p : Nat) (hr : QDig j r) (hp : p ≤ 30) (hjp : j + p + 1 ≤ 200) (w : World) (he : Env w) :
    Calls Tryz.prog 132 #[Q r, .int .i64 (p : Int), .bool true] w (QOk (uq r (TT p)) w) := by
  by_cases h : r.num * TT p % (r.den : Int) = 0
  · exact round_exact r p hr hp hjp h w he
  · exact round_up r p hr hp hjp h w he
set_option maxRecDepth 100000 in
set_option maxHeartbeats 4000000 in
theorem qdown {j : Nat} (r : Rat) (p : Nat) (hr : QDig j r) (hp : p ≤ 30) (hjp : j + p + 1 ≤ 200) (w : World) (he : Env w) :
    Calls Tryz.prog 64 #[Q r, .int .i64 (p : Int)] w (QOk (dn r (TT p)) w) := by
  have hB : Below w.heap.size w w := Below.refl _ _
  have M := fun W (h : Env W) => round_down r p hr hp hjp W h
  unfold QOk at *
  generalize dn r (TT p) = x at *
  clear hr hp hjp
  show Calls Tryz.prog 64 #[.agg #[.string (S r.num), .string (S (r.den : Int))], .int .i64 (p : Int)] w _
  go_enter Tryz.func64, Tryz.ntmps64
  go_wp2_with fail
  have sB := hB.size
  refine world_cut (fun X => Below w.heap.size w X ∧ Row X w.heap.size (.cells #[.string (S r.num), .string (S (r.den : Int))] 26) ∧ Row X (w.heap.size + 1) (.cells #[.string ⟨#[]⟩, .string ⟨#[]⟩] 26)) ⟨C1_hB, C2, C2⟩ ?_
  clear hB sB
  rintro V1 ⟨hB, rr, ro⟩
  obtain ⟨sr, cr0, cr1, fr0, fr1⟩ := Row.cells2 rr
  obtain ⟨so, co0, co1, fo0, fo1⟩ := Row.cells2 ro
  refine (M _ (he.below hB)).mono ?_
  rintro e W2 ⟨rfl, h1⟩
  clear sr cr0 cr1 fr0 fr1
  clear so co0 co1 fo0 fo1
  replace hB := hB.trans (h1.mono hB.size)
  replace rr := Row.below rr h1
  replace ro := Row.below ro h1
  clear h1
  obtain ⟨sr, cr0, cr1, fr0, fr1⟩ := Row.cells2 rr
  obtain ⟨so, co0, co1, fo0, fo1⟩ := Row.cells2 ro
  unfold Q
  go_wp2
  have sB := hB.size
  refine post_cut (fun X => Below w.heap.size w X ∧ Row X w.heap.size (.cells #[.string (S r.num), .string (S (r.den : Int))] 26) ∧ Row X (w.heap.size + 1) (.cells #[.string (S x.num), .string (S (x.den : Int))] 26)) ⟨C1_hB, C3_rr, C3_ro⟩ ?_
  clear rr
  clear sr cr0 cr1 fr0 fr1
  clear ro
  clear so co0 co1 fo0 fo1
  clear hB sB
  rintro V3 ⟨hB, rr, ro⟩
  obtain ⟨sr, cr0, cr1, fr0, fr1⟩ := Row.cells2 rr
  obtain ⟨so, co0, co1, fo0, fo1⟩ := Row.cells2 ro
  refine bodyPost_ret (v := .tuple #[.agg #[.string (S x.num), .string (S (x.den : Int))], .int .i64 0]) ?res rfl ⟨rfl, hB⟩
  case res => simp [results, Tryz.results64, go_sem, co0, co1]
set_option maxRecDepth 100000 in
set_option maxHeartbeats 4000000 in
theorem qup {j : Nat} (r : Rat) (p : Nat) (hr : QDig j r) (hp : p ≤ 30) (hjp : j + p + 1 ≤ 200) (w : World) (he : Env w) :
    Calls Tryz.prog 65 #[Q r, .int .i64 (p : Int)] w (QOk (uq r (TT p)) w) := by
  have hB : Below w.heap.size w w := Below.refl _ _
  have M := fun W (h : Env W) => round_any r p hr hp hjp W h
  unfold QOk at *
  generalize uq r (TT p) = x at *
  clear hr hp hjp
  show Calls Tryz.prog 65 #[.agg #[.string (S r.num), .string (S (r.den : Int))], .int .i64 (p : Int)] w _
  go_enter Tryz.func65, Tryz.ntmps65
  go_wp2_with fail
  have sB := hB.size
  refine world_cut (fun X => Below w.heap.size w X ∧ Row X w.heap.size (.cells #[.string (S r.num), .string (S (r.den : Int))] 26) ∧ Row X (w.heap.size + 1) (.cells #[.string ⟨#[]⟩, .string ⟨#[]⟩] 26)) ⟨C1_hB, C2, C2⟩ ?_
  clear hB sB
  rintro V1 ⟨hB, rr, ro⟩
  obtain ⟨sr, cr0, cr1, fr0, fr1⟩ := Row.cells2 rr
  obtain ⟨so, co0, co1, fo0, fo1⟩ := Row.cells2 ro
  refine (M _ (he.below hB)).mono ?_
  rintro e W2 ⟨rfl, h1⟩
  clear sr cr0 cr1 fr0 fr1
  clear so co0 co1 fo0 fo1
  replace hB := hB.trans (h1.mono hB.size)
  replace rr := Row.below rr h1
  replace ro := Row.below ro h1
  clear h1
  obtain ⟨sr, cr0, cr1, fr0, fr1⟩ := Row.cells2 rr
  obtain ⟨so, co0, co1, fo0, fo1⟩ := Row.cells2 ro
  unfold Q
  go_wp2
  have sB := hB.size
  refine post_cut (fun X => Below w.heap.size w X ∧ Row X w.heap.size (.cells #[.string (S r.num), .string (S (r.den : Int))] 26) ∧ Row X (w.heap.size + 1) (.cells #[.string (S x.num), .string (S (x.den : Int))] 26)) ⟨C1_hB, C3_rr, C3_ro⟩ ?_
  clear rr
  clear sr cr0 cr1 fr0 fr1
  clear ro
  clear so co0 co1 fo0 fo1
  clear hB sB
  rintro V3 ⟨hB, rr, ro⟩
  obtain ⟨sr, cr0, cr1, fr0, fr1⟩ := Row.cells2 rr
  obtain ⟨so, co0, co1, fo0, fo1⟩ := Row.cells2 ro
  refine bodyPost_ret (v := .tuple #[.agg #[.string (S x.num), .string (S (x.den : Int))], .int .i64 0]) ?res rfl ⟨rfl, hB⟩
  case res => simp [results, Tryz.results65, go_sem, co0, co1]
end Go.Proofs.YtngohpgkceedeaaGreatDoor
