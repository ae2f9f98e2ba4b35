/-
  The reference implementation of fractions: Valid, Make, Of, Add, Sub, Mul.
-/
import Derived.Test.YtngohpgkceedeaaGreatDoorQCmp
import Derived.Test.YtngohpgkceedeaaGreatDoorRefFrom
import Derived.Test.YtngohpgkceedeaaGreatDoorQPlain6
import Derived.Test.YtngohpgkceedeaaGreatDoorChains
namespace Go.Proofs.YtngohpgkceedeaaGreatDoor
open Go Go.RowKit Go.Lib Go.Shelf

theorem chk_str {z : Int} {w w' : World} {e : Ending} (hf : Fits z) (h : ChkOk z w e w') : StrOk z w e w' := by
  unfold ChkOk at h
  rw [tText_fit hf, tErr_fit hf] at h
  exact h
theorem raddS {a b : ByteArray} {x y z : Int} (ha : Is a x) (hb : Is b y) (hz : Hid (x + y = z)) (hx : Fits x) (hy : Fits y) (hf : Fits z) (w : World) :
    Calls Tryz.prog 188 #[.string a, .string b] w (StrOk z w) := (radd_any ha hb hz hx hy w).mono fun _ _ h => chk_str hf h
theorem rsubS {a b : ByteArray} {x y z : Int} (ha : Is a x) (hb : Is b y) (hz : Hid (x - y = z)) (hx : Fits x) (hy : Fits y) (hf : Fits z) (w : World) :
    Calls Tryz.prog 116 #[.string a, .string b] w (StrOk z w) := (rsub_any ha hb hz hx hy w).mono fun _ _ h => chk_str hf h
theorem rmulS {a b : ByteArray} {x y z : Int} (ha : Is a x) (hb : Is b y) (hz : Hid (x * y = z)) (hx : Fits x) (hy : Fits y) (hf : Fits z) (w : World) :
    Calls Tryz.prog 203 #[.string a, .string b] w (StrOk z w) := (rmul_any ha hb hz hx hy w).mono fun _ _ h => chk_str hf h
theorem rvalidB {a : ByteArray} {z : Int} (h : Is a z) (hf : Fits z) (w : World) : Calls Tryz.prog 114 #[.string a] w (BoolOk true w) :=
  (rvalid_is h hf w).mono fun _ _ h => ⟨h.1, by rw [h.2]; exact Below.refl _ _⟩
set_option maxRecDepth 100000 in
set_option maxHeartbeats 4000000 in
theorem rqvalid (q : Rat) (h : QDig 200 q) (w : World) : Calls Tryz.prog 89 #[Q q] w (BoolOk true w) := by
  have hB : Below w.heap.size w w := Below.refl _ _
  have hn := is_S q.num
  have hd := is_S (q.den : Int)
  have fn : Fits q.num := h.1
  have fd : Fits (q.den : Int) := h.2
  have i0 : Is ⟨#[48]⟩ 0 := is_zero
  have f0 : Fits 0 := fits_zero
  have C : Hid (cmpZ (q.den : Int) 0 = 1) := Lib.hid (cmpZ_gt (den_pos q))
  have G : Hid (((q.num.natAbs.gcd (q.den : Int).natAbs : Nat) : Int) = 1) := Lib.hid (by rw [rat_parts]; rfl)
  have M1 := fun W => rvalidB hn fn W
  have M2 := fun W => rvalidB hd fd W
  have M3 := fun W => rcmpS hd i0 C fd f0 W
  have M4 := fun W => rgcdS hn hd G fn fd W
  unfold StrOk at M4
  rw [S_one] at M4
  clear hn hd fn fd i0 f0 C G h
  unfold Q
  generalize S q.num = sn at *
  generalize S (q.den : Int) = sd at *
  go_enter Tryz.func89, Tryz.ntmps89
  go_wp2_with fail
  have sB := hB.size
  refine world_cut (fun X => Below w.heap.size w X ∧ Row X w.heap.size (.cells #[.string sn, .string sd] 26)) ⟨C1_hB, C2⟩ ?_
  clear hB sB
  rintro V1 ⟨hB, rq⟩
  obtain ⟨sq, cq0, cq1, fq0, fq1⟩ := Row.cells2 rq
  refine (M1 _).mono ?_
  rintro e W2 ⟨rfl, h1⟩
  clear sq cq0 cq1 fq0 fq1
  replace hB := hB.trans (h1.mono hB.size)
  replace rq := Row.below rq h1
  clear h1
  obtain ⟨sq, cq0, cq1, fq0, fq1⟩ := Row.cells2 rq
  go_wp2_with fail
  refine (M2 _).mono ?_
  rintro e W3 ⟨rfl, h1⟩
  clear sq cq0 cq1 fq0 fq1
  replace hB := hB.trans (h1.mono hB.size)
  replace rq := Row.below rq h1
  clear h1
  obtain ⟨sq, cq0, cq1, fq0, fq1⟩ := Row.cells2 rq
  go_wp2_with fail
  refine (M3 _).mono ?_
  rintro e W4 ⟨rfl, h1⟩
  clear sq cq0 cq1 fq0 fq1
  replace hB := hB.trans (h1.mono hB.size)
  replace rq := Row.below rq h1
  clear h1
  obtain ⟨sq, cq0, cq1, fq0, fq1⟩ := Row.cells2 rq
  go_wp2_with fail
  refine (M4 _).mono ?_
  rintro e W5 ⟨rfl, h1⟩
  clear sq cq0 cq1 fq0 fq1
  replace hB := hB.trans (h1.mono hB.size)
  replace rq := Row.below rq h1
  clear h1
  obtain ⟨sq, cq0, cq1, fq0, fq1⟩ := Row.cells2 rq
  go_wp2
  go_ret
  exact ⟨rfl, hB⟩
set_option maxRecDepth 100000 in
set_option maxHeartbeats 4000000 in
theorem rqmake {a b : ByteArray} {n d : Int} (ha : Is a n) (hb : Is b d) (hn : Fits n) (hd : Fits d) (hd0 : 0 < d) (w : World) : Calls Tryz.prog 57 #[.string a, .string b] w (QOk (Rat.divInt n d) w) := by
  have hB : Below w.heap.size w w := Below.refl _ _
  have i0 : Is ⟨#[48]⟩ 0 := is_zero
  have f0 : Fits 0 := fits_zero
  have nz : (b.toList == [48]) = false := by rw [hb.eq]; exact S_ne0 (by omega)
  have C : Hid (cmpZ d 0 = 1) := Lib.hid (cmpZ_gt hd0)
  obtain ⟨g, hg⟩ : ∃ g : Int, g = ((n.natAbs.gcd d.natAbs : Nat) : Int) := ⟨_, rfl⟩
  have G := Lib.hid hg.symm
  have fg : Fits g := by rw [hg]; exact gcd_fits hn hd
  have g0 : Hid (g ≠ 0) := Lib.hid (by rw [hg]; exact gcd_pos' (by omega))
  have ig := is_S g
  obtain ⟨r1, r2⟩ := reduced_parts (n := n) hd0
  rw [← hg] at r1 r2
  have R1 := Lib.hid r1.symm
  have R2 := Lib.hid r2.symm
  clear r1 r2 hg hd0
  generalize Rat.divInt n d = q at *
  have M1 := fun W => rvalidB ha hn W
  have M2 := fun W => rvalidB hb hd W
  have M3 := fun W => rcmpS hb i0 C hd f0 W
  have M4 := fun W => rgcdS ha hb G hn hd W
  have M5 := fun W => rdivS ha ig R1 (Lib.hid rfl) hn fg g0 W
  have M6 := fun W => rdivS hb ig R2 (Lib.hid rfl) hd fg g0 W
  unfold DivOk at M5 M6
  unfold StrOk at M4
  clear i0 f0 C G fg g0 ig R1 R2 ha hb hn hd
  unfold QOk Q
  go_enter Tryz.func57, Tryz.ntmps57
  go_wp2_with fail
  have sB := hB.size
  refine world_cut (fun X => Below w.heap.size w X ∧ Row X w.heap.size (.cells #[.string ⟨#[]⟩, .string ⟨#[]⟩] 26)) ⟨C1_hB, C2⟩ ?_
  clear hB sB
  rintro V1 ⟨hB, ro⟩
  obtain ⟨so, co0, co1, fo0, fo1⟩ := Row.cells2 ro
  refine (M1 _).mono ?_
  rintro e W2 ⟨rfl, h1⟩
  clear so co0 co1 fo0 fo1
  replace hB := hB.trans (h1.mono hB.size)
  replace ro := Row.below ro h1
  clear h1
  obtain ⟨so, co0, co1, fo0, fo1⟩ := Row.cells2 ro
  go_wp2_with fail
  refine (M2 _).mono ?_
  rintro e W3 ⟨rfl, h1⟩
  clear so co0 co1 fo0 fo1
  replace hB := hB.trans (h1.mono hB.size)
  replace ro := Row.below ro h1
  clear h1
  obtain ⟨so, co0, co1, fo0, fo1⟩ := Row.cells2 ro
  go_wp2_with fail
  refine (M3 _).mono ?_
  rintro e W4 ⟨rfl, h1⟩
  clear so co0 co1 fo0 fo1
  replace hB := hB.trans (h1.mono hB.size)
  replace ro := Row.below ro h1
  clear h1
  obtain ⟨so, co0, co1, fo0, fo1⟩ := Row.cells2 ro
  go_wp2_with fail
  refine (M4 _).mono ?_
  rintro e W5 ⟨rfl, h1⟩
  clear so co0 co1 fo0 fo1
  replace hB := hB.trans (h1.mono hB.size)
  replace ro := Row.below ro h1
  clear h1
  obtain ⟨so, co0, co1, fo0, fo1⟩ := Row.cells2 ro
  go_wp2_with fail
  refine (M5 _).mono ?_
  rintro e W6 ⟨rfl, h1⟩
  clear so co0 co1 fo0 fo1
  replace hB := hB.trans (h1.mono hB.size)
  replace ro := Row.below ro h1
  clear h1
  obtain ⟨so, co0, co1, fo0, fo1⟩ := Row.cells2 ro
  go_wp2_with fail
  refine (M6 _).mono ?_
  rintro e W7 ⟨rfl, h1⟩
  clear so co0 co1 fo0 fo1
  replace hB := hB.trans (h1.mono hB.size)
  replace ro := Row.below ro h1
  clear h1
  obtain ⟨so, co0, co1, fo0, fo1⟩ := Row.cells2 ro
  go_wp2
  have sB := hB.size
  refine post_cut (fun X => Below w.heap.size w X ∧ Row X w.heap.size (.cells #[.string (S q.num), .string (S (q.den : Int))] 26)) ⟨C1_hB, C3_ro⟩ ?_
  clear ro
  clear so co0 co1 fo0 fo1
  clear hB sB
  rintro V8 ⟨hB, ro⟩
  obtain ⟨so, co0, co1, fo0, fo1⟩ := Row.cells2 ro
  refine bodyPost_ret (v := .tuple #[.agg #[.string (S q.num), .string (S (q.den : Int))], .int .i64 0]) ?res rfl ⟨rfl, hB⟩
  case res => simp [results, Tryz.results57, go_sem, co0, co1]
set_option maxRecDepth 100000 in
set_option maxHeartbeats 4000000 in
theorem rqof {n d : Int} (hn : IsInt n) (hd : IsInt d) (hd0 : 0 < d) (w : World) : Calls Tryz.prog 66 #[.int .i64 n, .int .i64 d] w (QOk (Rat.divInt n d) w) := by
  have hB : Below w.heap.size w w := Below.refl _ _
  have M1 := fun W => rfromIntS (Lib.hid hn) W
  have M2 := fun W => rfromIntS (Lib.hid hd) W
  have M3 := fun W => rqmake (is_S n) (is_S d) ((dig_int hn).fits (by omega)) ((dig_int hd).fits (by omega)) hd0 W
  unfold FromOk at M1 M2
  unfold QOk at *
  generalize Rat.divInt n d = q at *
  clear hn hd hd0
  unfold Q at *
  go_enter Tryz.func66, Tryz.ntmps66
  go_wp2_with fail
  have sB := hB.size
  refine world_cut (fun X => Below w.heap.size w X ∧ Row X w.heap.size (.cells #[.string ⟨#[]⟩, .string ⟨#[]⟩] 26)) ⟨C1_hB, C2⟩ ?_
  clear hB sB
  rintro V1 ⟨hB, ro⟩
  obtain ⟨so, co0, co1, fo0, fo1⟩ := Row.cells2 ro
  refine (M1 _).mono ?_
  rintro e W2 ⟨rfl, h1⟩
  clear so co0 co1 fo0 fo1
  replace hB := hB.trans (h1.mono hB.size)
  replace ro := Row.below ro h1
  clear h1
  obtain ⟨so, co0, co1, fo0, fo1⟩ := Row.cells2 ro
  go_wp2_with fail
  refine (M2 _).mono ?_
  rintro e W3 ⟨rfl, h1⟩
  clear so co0 co1 fo0 fo1
  replace hB := hB.trans (h1.mono hB.size)
  replace ro := Row.below ro h1
  clear h1
  obtain ⟨so, co0, co1, fo0, fo1⟩ := Row.cells2 ro
  go_wp2_with fail
  refine (M3 _).mono ?_
  rintro e W4 ⟨rfl, h1⟩
  clear so co0 co1 fo0 fo1
  replace hB := hB.trans (h1.mono hB.size)
  replace ro := Row.below ro h1
  clear h1
  obtain ⟨so, co0, co1, fo0, fo1⟩ := Row.cells2 ro
  go_wp2
  have sB := hB.size
  refine post_cut (fun X => Below w.heap.size w X ∧ Row X w.heap.size (.cells #[.string (S q.num), .string (S (q.den : Int))] 26)) ⟨C1_hB, C3_ro⟩ ?_
  clear ro
  clear so co0 co1 fo0 fo1
  clear hB sB
  rintro V5 ⟨hB, ro⟩
  obtain ⟨so, co0, co1, fo0, fo1⟩ := Row.cells2 ro
  refine bodyPost_ret (v := .tuple #[.agg #[.string (S q.num), .string (S (q.den : Int))], .int .i64 0]) ?res rfl ⟨rfl, hB⟩
  case res => simp [results, Tryz.results66, go_sem, co0, co1]
set_option maxRecDepth 100000 in
set_option maxHeartbeats 4000000 in
theorem rcross {a b : Rat} {x y d : Int} (ha' : QDig 200 a) (hb' : QDig 200 b) (hx : Hid (a.num * (b.den : Int) = x)) (hy : Hid (b.num * (a.den : Int) = y)) (hd : Hid ((a.den : Int) * (b.den : Int) = d)) (fx : Fits x) (fy : Fits y) (fd : Fits d) (w : World) :
    Calls Tryz.prog 187 #[Q a, Q b] w fun e w' => e = .returned (.tuple #[.string (S x), .string (S y), .string (S d), .bool true]) ∧ Below w.heap.size w w' := by
  have hB : Below w.heap.size w w := Below.refl _ _
  have ia := is_S a.num
  have ib := is_S b.num
  have ja := is_S (a.den : Int)
  have jb := is_S (b.den : Int)
  have fa : Fits a.num := ha'.1
  have fb : Fits b.num := hb'.1
  have ga : Fits (a.den : Int) := ha'.2
  have gb : Fits (b.den : Int) := hb'.2
  have QV1 := fun W => rqvalid a ha' W
  have QV2 := fun W => rqvalid b hb' W
  have M1 := fun W => rmulS ia jb hx fa gb fx W
  have M2 := fun W => rmulS ib ja hy fb ga fy W
  have M3 := fun W => rmulS ja jb hd ga gb fd W
  unfold StrOk at M1 M2 M3
  clear ia ib ja jb fa fb ga gb hx hy hd fx fy fd
  clear ha' hb'
  unfold Q at *
  generalize S x = sx at *
  generalize S y = sy at *
  generalize S d = sd at *
  go_enter Tryz.func187, Tryz.ntmps187
  go_wp2_with fail
  have sB := hB.size
  refine world_cut (fun X => Below w.heap.size w X ∧ Row X w.heap.size (.cells #[.string (S a.num), .string (S (a.den : Int))] 26) ∧ Row X (w.heap.size + 1) (.cells #[.string (S b.num), .string (S (b.den : Int))] 26)) ⟨C1_hB, C2, C2⟩ ?_
  clear hB sB
  rintro V1 ⟨hB, ra, rb⟩
  obtain ⟨sa, ca0, ca1, fa0, fa1⟩ := Row.cells2 ra
  obtain ⟨sb, cb0, cb1, fb0, fb1⟩ := Row.cells2 rb
  refine (QV1 _).mono ?_
  rintro e W2 ⟨rfl, h1⟩
  clear sa ca0 ca1 fa0 fa1
  clear sb cb0 cb1 fb0 fb1
  replace hB := hB.trans (h1.mono hB.size)
  replace ra := Row.below ra h1
  replace rb := Row.below rb h1
  clear h1
  obtain ⟨sa, ca0, ca1, fa0, fa1⟩ := Row.cells2 ra
  obtain ⟨sb, cb0, cb1, fb0, fb1⟩ := Row.cells2 rb
  go_wp2_with fail
  refine (QV2 _).mono ?_
  rintro e W3 ⟨rfl, h1⟩
  clear sa ca0 ca1 fa0 fa1
  clear sb cb0 cb1 fb0 fb1
  replace hB := hB.trans (h1.mono hB.size)
  replace ra := Row.below ra h1
  replace rb := Row.below rb h1
  clear h1
  obtain ⟨sa, ca0, ca1, fa0, fa1⟩ := Row.cells2 ra
  obtain ⟨sb, cb0, cb1, fb0, fb1⟩ := Row.cells2 rb
  go_wp2_with fail
  refine (M1 _).mono ?_
  rintro e W4 ⟨rfl, h1⟩
  clear sa ca0 ca1 fa0 fa1
  clear sb cb0 cb1 fb0 fb1
  replace hB := hB.trans (h1.mono hB.size)
  replace ra := Row.below ra h1
  replace rb := Row.below rb h1
  clear h1
  obtain ⟨sa, ca0, ca1, fa0, fa1⟩ := Row.cells2 ra
  obtain ⟨sb, cb0, cb1, fb0, fb1⟩ := Row.cells2 rb
  go_wp2_with fail
  refine (M2 _).mono ?_
  rintro e W5 ⟨rfl, h1⟩
  clear sa ca0 ca1 fa0 fa1
  clear sb cb0 cb1 fb0 fb1
  replace hB := hB.trans (h1.mono hB.size)
  replace ra := Row.below ra h1
  replace rb := Row.below rb h1
  clear h1
  obtain ⟨sa, ca0, ca1, fa0, fa1⟩ := Row.cells2 ra
  obtain ⟨sb, cb0, cb1, fb0, fb1⟩ := Row.cells2 rb
  go_wp2_with fail
  refine (M3 _).mono ?_
  rintro e W6 ⟨rfl, h1⟩
  clear sa ca0 ca1 fa0 fa1
  clear sb cb0 cb1 fb0 fb1
  replace hB := hB.trans (h1.mono hB.size)
  replace ra := Row.below ra h1
  replace rb := Row.below rb h1
  clear h1
  obtain ⟨sa, ca0, ca1, fa0, fa1⟩ := Row.cells2 ra
  obtain ⟨sb, cb0, cb1, fb0, fb1⟩ := Row.cells2 rb
  go_wp2
  refine bodyPost_ret (v := .tuple #[.string sx, .string sy, .string sd, .bool true]) ?res rfl ⟨rfl, hB⟩
  case res => simp [results, Tryz.results187, go_sem]
set_option maxRecDepth 100000 in
set_option maxHeartbeats 4000000 in
theorem rqadd {j k : Nat} {a b : Rat} (ha : QDig j a) (hb : QDig k b) (hjk : j + k + 1 ≤ 200) (w : World) : Calls Tryz.prog 147 #[Q a, Q b] w (QOk (a + b) w) := by
  have hB : Below w.heap.size w w := Below.refl _ _
  have dx := ha.1.mul hb.2
  have dy : Dig (j + k) (b.num * (a.den : Int)) := by rw [Nat.add_comm]; exact hb.1.mul ha.2
  have dd := ha.2.mul hb.2
  have dn := dx.add dy
  have d0 : 0 < (a.den : Int) * (b.den : Int) := Int.mul_pos (den_pos a) (den_pos b)
  have M1 := fun W => rcross (ha.mono (show j ≤ 200 by omega)) (hb.mono (show k ≤ 200 by omega)) (Lib.hid rfl) (Lib.hid rfl) (Lib.hid rfl) (dx.fits (by omega)) (dy.fits (by omega)) (dd.fits (by omega)) W
  have M2 := fun W => raddS (is_S _) (is_S _) (Lib.hid rfl) (dx.fits (by omega)) (dy.fits (by omega)) (dn.fits (by omega)) W
  have M3 := fun W => rqmake (is_S _) (is_S _) (dn.fits (by omega)) (dd.fits (by omega)) d0 W
  rw [add_parts] at M3
  unfold QOk at *
  unfold StrOk at M2
  clear dx dy dd dn d0 ha hb hjk
  generalize a + b = q at *
  generalize S (a.num * (b.den : Int) + b.num * (a.den : Int)) = sn at *
  generalize S (a.num * (b.den : Int)) = sx at *
  generalize S (b.num * (a.den : Int)) = sy at *
  generalize S ((a.den : Int) * (b.den : Int)) = sd at *
  unfold Q at *
  go_enter Tryz.func147, Tryz.ntmps147
  go_wp2_with fail
  have sB := hB.size
  refine world_cut (fun X => Below w.heap.size w X ∧ Row X w.heap.size (.cells #[.string (S a.num), .string (S (a.den : Int))] 26) ∧ Row X (w.heap.size + 1) (.cells #[.string (S b.num), .string (S (b.den : Int))] 26) ∧ Row X (w.heap.size + 1 + 1) (.cells #[.string ⟨#[]⟩, .string ⟨#[]⟩] 26)) ⟨C1_hB, C2, C2, C2⟩ ?_
  clear hB sB
  rintro V1 ⟨hB, ra, rb, ro⟩
  obtain ⟨sa, ca0, ca1, fa0, fa1⟩ := Row.cells2 ra
  obtain ⟨sb, cb0, cb1, fb0, fb1⟩ := Row.cells2 rb
  obtain ⟨so, co0, co1, fo0, fo1⟩ := Row.cells2 ro
  refine (M1 _).mono ?_
  rintro e W2 ⟨rfl, h1⟩
  clear sa ca0 ca1 fa0 fa1
  clear sb cb0 cb1 fb0 fb1
  clear so co0 co1 fo0 fo1
  replace hB := hB.trans (h1.mono hB.size)
  replace ra := Row.below ra h1
  replace rb := Row.below rb h1
  replace ro := Row.below ro h1
  clear h1
  obtain ⟨sa, ca0, ca1, fa0, fa1⟩ := Row.cells2 ra
  obtain ⟨sb, cb0, cb1, fb0, fb1⟩ := Row.cells2 rb
  obtain ⟨so, co0, co1, fo0, fo1⟩ := Row.cells2 ro
  go_wp2_with fail
  refine (M2 _).mono ?_
  rintro e W3 ⟨rfl, h1⟩
  clear sa ca0 ca1 fa0 fa1
  clear sb cb0 cb1 fb0 fb1
  clear so co0 co1 fo0 fo1
  replace hB := hB.trans (h1.mono hB.size)
  replace ra := Row.below ra h1
  replace rb := Row.below rb h1
  replace ro := Row.below ro h1
  clear h1
  obtain ⟨sa, ca0, ca1, fa0, fa1⟩ := Row.cells2 ra
  obtain ⟨sb, cb0, cb1, fb0, fb1⟩ := Row.cells2 rb
  obtain ⟨so, co0, co1, fo0, fo1⟩ := Row.cells2 ro
  go_wp2_with fail
  refine (M3 _).mono ?_
  rintro e W4 ⟨rfl, h1⟩
  clear sa ca0 ca1 fa0 fa1
  clear sb cb0 cb1 fb0 fb1
  clear so co0 co1 fo0 fo1
  replace hB := hB.trans (h1.mono hB.size)
  replace ra := Row.below ra h1
  replace rb := Row.below rb h1
  replace ro := Row.below ro h1
  clear h1
  obtain ⟨sa, ca0, ca1, fa0, fa1⟩ := Row.cells2 ra
  obtain ⟨sb, cb0, cb1, fb0, fb1⟩ := Row.cells2 rb
  obtain ⟨so, co0, co1, fo0, fo1⟩ := Row.cells2 ro
  go_wp2
  have sB := hB.size
  refine post_cut (fun X => Below w.heap.size w X ∧ Row X w.heap.size (.cells #[.string (S a.num), .string (S (a.den : Int))] 26) ∧ Row X (w.heap.size + 1) (.cells #[.string (S b.num), .string (S (b.den : Int))] 26) ∧ Row X (w.heap.size + 1 + 1) (.cells #[.string (S q.num), .string (S (q.den : Int))] 26)) ⟨C1_hB, C3_ra, C3_rb, C3_ro⟩ ?_
  clear ra
  clear sa ca0 ca1 fa0 fa1
  clear rb
  clear sb cb0 cb1 fb0 fb1
  clear ro
  clear so co0 co1 fo0 fo1
  clear hB sB
  rintro V5 ⟨hB, ra, rb, ro⟩
  obtain ⟨sa, ca0, ca1, fa0, fa1⟩ := Row.cells2 ra
  obtain ⟨sb, cb0, cb1, fb0, fb1⟩ := Row.cells2 rb
  obtain ⟨so, co0, co1, fo0, fo1⟩ := Row.cells2 ro
  refine bodyPost_ret (v := .tuple #[.agg #[.string (S q.num), .string (S (q.den : Int))], .int .i64 0]) ?res rfl ⟨rfl, hB⟩
  case res => simp [results, Tryz.results147, go_sem, co0, co1]
set_option maxRecDepth 100000 in
set_option maxHeartbeats 4000000 in
theorem rqsub {j k : Nat} {a b : Rat} (ha : QDig j a) (hb : QDig k b) (hjk : j + k + 1 ≤ 200) (w : World) : Calls Tryz.prog 146 #[Q a, Q b] w (QOk (a - b) w) := by
  have hB : Below w.heap.size w w := Below.refl _ _
  have dx := ha.1.mul hb.2
  have dy : Dig (j + k) (b.num * (a.den : Int)) := by rw [Nat.add_comm]; exact hb.1.mul ha.2
  have dd := ha.2.mul hb.2
  have dn := dx.sub dy
  have d0 : 0 < (a.den : Int) * (b.den : Int) := Int.mul_pos (den_pos a) (den_pos b)
  have M1 := fun W => rcross (ha.mono (show j ≤ 200 by omega)) (hb.mono (show k ≤ 200 by omega)) (Lib.hid rfl) (Lib.hid rfl) (Lib.hid rfl) (dx.fits (by omega)) (dy.fits (by omega)) (dd.fits (by omega)) W
  have M2 := fun W => rsubS (is_S _) (is_S _) (Lib.hid rfl) (dx.fits (by omega)) (dy.fits (by omega)) (dn.fits (by omega)) W
  have M3 := fun W => rqmake (is_S _) (is_S _) (dn.fits (by omega)) (dd.fits (by omega)) d0 W
  rw [sub_parts] at M3
  unfold QOk at *
  unfold StrOk at M2
  clear dx dy dd dn d0 ha hb hjk
  generalize a - b = q at *
  generalize S (a.num * (b.den : Int) - b.num * (a.den : Int)) = sn at *
  generalize S (a.num * (b.den : Int)) = sx at *
  generalize S (b.num * (a.den : Int)) = sy at *
  generalize S ((a.den : Int) * (b.den : Int)) = sd at *
  unfold Q at *
  go_enter Tryz.func146, Tryz.ntmps146
  go_wp2_with fail
  have sB := hB.size
  refine world_cut (fun X => Below w.heap.size w X ∧ Row X w.heap.size (.cells #[.string (S a.num), .string (S (a.den : Int))] 26) ∧ Row X (w.heap.size + 1) (.cells #[.string (S b.num), .string (S (b.den : Int))] 26) ∧ Row X (w.heap.size + 1 + 1) (.cells #[.string ⟨#[]⟩, .string ⟨#[]⟩] 26)) ⟨C1_hB, C2, C2, C2⟩ ?_
  clear hB sB
  rintro V1 ⟨hB, ra, rb, ro⟩
  obtain ⟨sa, ca0, ca1, fa0, fa1⟩ := Row.cells2 ra
  obtain ⟨sb, cb0, cb1, fb0, fb1⟩ := Row.cells2 rb
  obtain ⟨so, co0, co1, fo0, fo1⟩ := Row.cells2 ro
  refine (M1 _).mono ?_
  rintro e W2 ⟨rfl, h1⟩
  clear sa ca0 ca1 fa0 fa1
  clear sb cb0 cb1 fb0 fb1
  clear so co0 co1 fo0 fo1
  replace hB := hB.trans (h1.mono hB.size)
  replace ra := Row.below ra h1
  replace rb := Row.below rb h1
  replace ro := Row.below ro h1
  clear h1
  obtain ⟨sa, ca0, ca1, fa0, fa1⟩ := Row.cells2 ra
  obtain ⟨sb, cb0, cb1, fb0, fb1⟩ := Row.cells2 rb
  obtain ⟨so, co0, co1, fo0, fo1⟩ := Row.cells2 ro
  go_wp2_with fail
  refine (M2 _).mono ?_
  rintro e W3 ⟨rfl, h1⟩
  clear sa ca0 ca1 fa0 fa1
  clear sb cb0 cb1 fb0 fb1
  clear so co0 co1 fo0 fo1
  replace hB := hB.trans (h1.mono hB.size)
  replace ra := Row.below ra h1
  replace rb := Row.below rb h1
  replace ro := Row.below ro h1
  clear h1
  obtain ⟨sa, ca0, ca1, fa0, fa1⟩ := Row.cells2 ra
  obtain ⟨sb, cb0, cb1, fb0, fb1⟩ := Row.cells2 rb
  obtain ⟨so, co0, co1, fo0, fo1⟩ := Row.cells2 ro
  go_wp2_with fail
  refine (M3 _).mono ?_
  rintro e W4 ⟨rfl, h1⟩
  clear sa ca0 ca1 fa0 fa1
  clear sb cb0 cb1 fb0 fb1
  clear so co0 co1 fo0 fo1
  replace hB := hB.trans (h1.mono hB.size)
  replace ra := Row.below ra h1
  replace rb := Row.below rb h1
  replace ro := Row.below ro h1
  clear h1
  obtain ⟨sa, ca0, ca1, fa0, fa1⟩ := Row.cells2 ra
  obtain ⟨sb, cb0, cb1, fb0, fb1⟩ := Row.cells2 rb
  obtain ⟨so, co0, co1, fo0, fo1⟩ := Row.cells2 ro
  go_wp2
  have sB := hB.size
  refine post_cut (fun X => Below w.heap.size w X ∧ Row X w.heap.size (.cells #[.string (S a.num), .string (S (a.den : Int))] 26) ∧ Row X (w.heap.size + 1) (.cells #[.string (S b.num), .string (S (b.den : Int))] 26) ∧ Row X (w.heap.size + 1 + 1) (.cells #[.string (S q.num), .string (S (q.den : Int))] 26)) ⟨C1_hB, C3_ra, C3_rb, C3_ro⟩ ?_
  clear ra
  clear sa ca0 ca1 fa0 fa1
  clear rb
  clear sb cb0 cb1 fb0 fb1
  clear ro
  clear so co0 co1 fo0 fo1
  clear hB sB
  rintro V5 ⟨hB, ra, rb, ro⟩
  obtain ⟨sa, ca0, ca1, fa0, fa1⟩ := Row.cells2 ra
  obtain ⟨sb, cb0, cb1, fb0, fb1⟩ := Row.cells2 rb
  obtain ⟨so, co0, co1, fo0, fo1⟩ := Row.cells2 ro
  refine bodyPost_ret (v := .tuple #[.agg #[.string (S q.num), .string (S (q.den : Int))], .int .i64 0]) ?res rfl ⟨rfl, hB⟩
  case res => simp [results, Tryz.results146, go_sem, co0, co1]
set_option maxRecDepth 100000 in
set_option maxHeartbeats 4000000 in
theorem rqmul {j k : Nat} {a b : Rat} (ha : QDig j a) (hb : QDig k b) (hjk : j + k ≤ 200) (w : World) : Calls Tryz.prog 186 #[Q a, Q b] w (QOk (a * b) w) := by
  have hB : Below w.heap.size w w := Below.refl _ _
  have ha' := ha.mono (show j ≤ 200 by omega)
  have hb' := hb.mono (show k ≤ 200 by omega)
  have ia := is_S a.num
  have ib := is_S b.num
  have ja := is_S (a.den : Int)
  have jb := is_S (b.den : Int)
  have fa : Fits a.num := ha'.1
  have fb : Fits b.num := hb'.1
  have ga : Fits (a.den : Int) := ha'.2
  have gb : Fits (b.den : Int) := hb'.2
  have QV1 := fun W => rqvalid a ha' W
  have QV2 := fun W => rqvalid b hb' W
  have dn := ha.1.mul hb.1
  have dd := ha.2.mul hb.2
  have d0 : 0 < (a.den : Int) * (b.den : Int) := Int.mul_pos (den_pos a) (den_pos b)
  have M1 := fun W => rmulS ia ib (Lib.hid rfl) fa fb (dn.fits (by omega)) W
  have M2 := fun W => rmulS ja jb (Lib.hid rfl) ga gb (dd.fits (by omega)) W
  have M3 := fun W => rqmake (is_S _) (is_S _) (dn.fits (by omega)) (dd.fits (by omega)) d0 W
  rw [mul_parts] at M3
  unfold QOk at *
  unfold StrOk at M1 M2
  clear dn dd d0 ha hb hjk ia ib ja jb fa fb ga gb
  clear ha' hb'
  generalize a * b = q at *
  generalize S (a.num * b.num) = sx at *
  generalize S ((a.den : Int) * (b.den : Int)) = sd at *
  unfold Q at *
  go_enter Tryz.func186, Tryz.ntmps186
  go_wp2_with fail
  have sB := hB.size
  refine world_cut (fun X => Below w.heap.size w X ∧ Row X w.heap.size (.cells #[.string (S a.num), .string (S (a.den : Int))] 26) ∧ Row X (w.heap.size + 1) (.cells #[.string (S b.num), .string (S (b.den : Int))] 26) ∧ Row X (w.heap.size + 1 + 1) (.cells #[.string ⟨#[]⟩, .string ⟨#[]⟩] 26)) ⟨C1_hB, C2, C2, C2⟩ ?_
  clear hB sB
  rintro V1 ⟨hB, ra, rb, ro⟩
  obtain ⟨sa, ca0, ca1, fa0, fa1⟩ := Row.cells2 ra
  obtain ⟨sb, cb0, cb1, fb0, fb1⟩ := Row.cells2 rb
  obtain ⟨so, co0, co1, fo0, fo1⟩ := Row.cells2 ro
  refine (QV1 _).mono ?_
  rintro e W2 ⟨rfl, h1⟩
  clear sa ca0 ca1 fa0 fa1
  clear sb cb0 cb1 fb0 fb1
  clear so co0 co1 fo0 fo1
  replace hB := hB.trans (h1.mono hB.size)
  replace ra := Row.below ra h1
  replace rb := Row.below rb h1
  replace ro := Row.below ro h1
  clear h1
  obtain ⟨sa, ca0, ca1, fa0, fa1⟩ := Row.cells2 ra
  obtain ⟨sb, cb0, cb1, fb0, fb1⟩ := Row.cells2 rb
  obtain ⟨so, co0, co1, fo0, fo1⟩ := Row.cells2 ro
  go_wp2_with fail
  refine (QV2 _).mono ?_
  rintro e W3 ⟨rfl, h1⟩
  clear sa ca0 ca1 fa0 fa1
  clear sb cb0 cb1 fb0 fb1
  clear so co0 co1 fo0 fo1
  replace hB := hB.trans (h1.mono hB.size)
  replace ra := Row.below ra h1
  replace rb := Row.below rb h1
  replace ro := Row.below ro h1
  clear h1
  obtain ⟨sa, ca0, ca1, fa0, fa1⟩ := Row.cells2 ra
  obtain ⟨sb, cb0, cb1, fb0, fb1⟩ := Row.cells2 rb
  obtain ⟨so, co0, co1, fo0, fo1⟩ := Row.cells2 ro
  go_wp2_with fail
  refine (M1 _).mono ?_
  rintro e W4 ⟨rfl, h1⟩
  clear sa ca0 ca1 fa0 fa1
  clear sb cb0 cb1 fb0 fb1
  clear so co0 co1 fo0 fo1
  replace hB := hB.trans (h1.mono hB.size)
  replace ra := Row.below ra h1
  replace rb := Row.below rb h1
  replace ro := Row.below ro h1
  clear h1
  obtain ⟨sa, ca0, ca1, fa0, fa1⟩ := Row.cells2 ra
  obtain ⟨sb, cb0, cb1, fb0, fb1⟩ := Row.cells2 rb
  obtain ⟨so, co0, co1, fo0, fo1⟩ := Row.cells2 ro
  go_wp2_with fail
  refine (M2 _).mono ?_
  rintro e W5 ⟨rfl, h1⟩
  clear sa ca0 ca1 fa0 fa1
  clear sb cb0 cb1 fb0 fb1
  clear so co0 co1 fo0 fo1
  replace hB := hB.trans (h1.mono hB.size)
  replace ra := Row.below ra h1
  replace rb := Row.below rb h1
  replace ro := Row.below ro h1
  clear h1
  obtain ⟨sa, ca0, ca1, fa0, fa1⟩ := Row.cells2 ra
  obtain ⟨sb, cb0, cb1, fb0, fb1⟩ := Row.cells2 rb
  obtain ⟨so, co0, co1, fo0, fo1⟩ := Row.cells2 ro
  go_wp2_with fail
  refine (M3 _).mono ?_
  rintro e W6 ⟨rfl, h1⟩
  clear sa ca0 ca1 fa0 fa1
  clear sb cb0 cb1 fb0 fb1
  clear so co0 co1 fo0 fo1
  replace hB := hB.trans (h1.mono hB.size)
  replace ra := Row.below ra h1
  replace rb := Row.below rb h1
  replace ro := Row.below ro h1
  clear h1
  obtain ⟨sa, ca0, ca1, fa0, fa1⟩ := Row.cells2 ra
  obtain ⟨sb, cb0, cb1, fb0, fb1⟩ := Row.cells2 rb
  obtain ⟨so, co0, co1, fo0, fo1⟩ := Row.cells2 ro
  go_wp2
  have sB := hB.size
  refine post_cut (fun X => Below w.heap.size w X ∧ Row X w.heap.size (.cells #[.string (S a.num), .string (S (a.den : Int))] 26) ∧ Row X (w.heap.size + 1) (.cells #[.string (S b.num), .string (S (b.den : Int))] 26) ∧ Row X (w.heap.size + 1 + 1) (.cells #[.string (S q.num), .string (S (q.den : Int))] 26)) ⟨C1_hB, C3_ra, C3_rb, C3_ro⟩ ?_
  clear ra
  clear sa ca0 ca1 fa0 fa1
  clear rb
  clear sb cb0 cb1 fb0 fb1
  clear ro
  clear so co0 co1 fo0 fo1
  clear hB sB
  rintro V7 ⟨hB, ra, rb, ro⟩
  obtain ⟨sa, ca0, ca1, fa0, fa1⟩ := Row.cells2 ra
  obtain ⟨sb, cb0, cb1, fb0, fb1⟩ := Row.cells2 rb
  obtain ⟨so, co0, co1, fo0, fo1⟩ := Row.cells2 ro
  refine bodyPost_ret (v := .tuple #[.agg #[.string (S q.num), .string (S (q.den : Int))], .int .i64 0]) ?res rfl ⟨rfl, hB⟩
  case res => simp [results, Tryz.results186, go_sem, co0, co1]
set_option maxRecDepth 100000 in
set_option maxHeartbeats 4000000 in
theorem pick4 (c n : Int) (hc : IsInt c) (hn : 0 < n) (hn2 : n ≤ 1000000) (w : World) : Calls Tryz.prog 56 #[.int .i64 c, .int .i64 n] w fun e w' => (∃ r : Nat, e = .returned (.int .i64 (r : Int)) ∧ (r : Int) < n) ∧ w' = w := by
  obtain ⟨c0, c1⟩ := hc
  have nz : ¬ n = 0 := by omega
  by_cases h : c < 0
  · have e : -((c + 1).tmod n) = (-(c + 1)) % n := by rw [← Int.neg_tmod, Int.tmod_eq_emod_of_nonneg (by omega)]
    have b0 := Int.emod_nonneg (-(c + 1)) nz
    have b1 := Int.emod_lt_of_pos (-(c + 1)) hn
    have E := Lib.hid e
    have B := Lib.hid (And.intro b0 b1)
    clear e b0 b1
    go_enter Tryz.func56, Tryz.ntmps56
    go_wp2
    go_ret
    obtain ⟨b0, b1⟩ := B.out
    refine ⟨⟨((-(c + 1)) % n).toNat, ?_, by omega⟩, rfl⟩
    rw [Int.toNat_of_nonneg b0, ← E.out]
    rfl
  · have b0 := Int.emod_nonneg c nz
    have b1 := Int.emod_lt_of_pos c hn
    have B := Lib.hid (And.intro b0 b1)
    clear b0 b1
    go_enter Tryz.func56, Tryz.ntmps56
    go_wp2
    go_ret
    obtain ⟨b0, b1⟩ := B.out
    refine ⟨⟨(c % n).toNat, ?_, by omega⟩, rfl⟩
    rw [Int.toNat_of_nonneg b0]
    rfl
set_option maxRecDepth 100000 in
set_option maxHeartbeats 4000000 in
theorem pickL (c n : Int) (hc : IsInt c) (hn : 0 < n) (hn2 : n ≤ 1000000) (w : World) : Calls Tryz.prog 13 #[.int .i64 c, .int .i64 n] w fun e w' => (∃ r : Nat, e = .returned (.int .i64 (r : Int)) ∧ (r : Int) < n) ∧ w' = w := by
  obtain ⟨c0, c1⟩ := hc
  have nz : ¬ n = 0 := by omega
  by_cases h : c < 0
  · have e : -((c + 1).tmod n) = (-(c + 1)) % n := by rw [← Int.neg_tmod, Int.tmod_eq_emod_of_nonneg (by omega)]
    have b0 := Int.emod_nonneg (-(c + 1)) nz
    have b1 := Int.emod_lt_of_pos (-(c + 1)) hn
    have E := Lib.hid e
    have B := Lib.hid (And.intro b0 b1)
    clear e b0 b1
    go_enter Tryz.func13, Tryz.ntmps13
    go_wp2
    go_ret
    obtain ⟨b0, b1⟩ := B.out
    refine ⟨⟨((-(c + 1)) % n).toNat, ?_, by omega⟩, rfl⟩
    rw [Int.toNat_of_nonneg b0, ← E.out]
    rfl
  · have b0 := Int.emod_nonneg c nz
    have b1 := Int.emod_lt_of_pos c hn
    have B := Lib.hid (And.intro b0 b1)
    clear b0 b1
    go_enter Tryz.func13, Tryz.ntmps13
    go_wp2
    go_ret
    obtain ⟨b0, b1⟩ := B.out
    refine ⟨⟨(c % n).toNat, ?_, by omega⟩, rfl⟩
    rw [Int.toNat_of_nonneg b0]
    rfl
end Go.Proofs.YtngohpgkceedeaaGreatDoor
