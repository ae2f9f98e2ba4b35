/-
  Package enclosure: that no interval of a slice is invalid; must; an operation's result; the least and the greatest of some fractions.
-/
import Derived.Test.YtngohpgkceedeaaGreatDoorEValid
import Derived.Deep.RegionHeld3
import Derived.Test.YtngohpgkceedeaaGreatDoorChains
namespace Go.Proofs.YtngohpgkceedeaaGreatDoor
open Go Go.RowKit Go.Lib Go.Shelf

def QIs (q : Rat) (w : World) (e : Ending) (w' : World) : Prop := e = .returned (Q q) ∧ Below w.heap.size w w'
set_option maxRecDepth 100000 in
set_option maxHeartbeats 4000000 in
theorem ivbad (a : Iv) (ha : IDig 200 a) (ho : a.Ok) (w : World) (he : Env w) : Calls Tryz.prog 131 #[I a] w (BoolOk false w) := by
  have hB : Below w.heap.size w w := Below.refl _ _
  have h1 := fun W (h : Env W) => evalid a ha W h
  have ho2 : a.lo ≤ a.hi := ho
  rw [decide_eq_true ho2] at h1
  clear ho ho2
  show Calls Tryz.prog 131 #[.agg #[.string (S a.lo.num), .string (S (a.lo.den : Int)), .string (S a.hi.num), .string (S (a.hi.den : Int))]] w _
  go_enter Tryz.func131, Tryz.ntmps131
  go_wp2_with fail
  have sB := hB.size
  refine world_cut (fun X => Below w.heap.size w X ∧ Row X w.heap.size (.cells #[.string (S a.lo.num), .string (S (a.lo.den : Int)), .string (S a.hi.num), .string (S (a.hi.den : Int))] 29)) ⟨C1_hB, C2⟩ ?_
  clear hB sB
  rintro V1 ⟨hB, ra⟩
  obtain ⟨sa, ca0, ca1, ca2, ca3, fa0, fa1, fa2, fa3⟩ := Row.cells4 ra
  refine (h1 _ (he.below hB)).mono ?_
  rintro e W2 ⟨rfl, h1⟩
  clear sa ca0 ca1 ca2 ca3 fa0 fa1 fa2 fa3
  replace hB := hB.trans (h1.mono hB.size)
  replace ra := Row.below ra h1
  clear h1
  obtain ⟨sa, ca0, ca1, ca2, ca3, fa0, fa1, fa2, fa3⟩ := Row.cells4 ra
  go_wp2
  go_ret
  exact ⟨rfl, hB⟩
set_option maxRecDepth 100000 in
set_option maxHeartbeats 4000000 in
theorem rtbad (a : Iv) (ha : IDig 200 a) (ho : a.Ok) (w : World) (he : Env w) : Calls Tryz.prog 154 #[I a] w (BoolOk false w) := by
  have hB : Below w.heap.size w w := Below.refl _ _
  have h1 := fun W (h : Env W) => evalid a ha W h
  have ho2 : a.lo ≤ a.hi := ho
  rw [decide_eq_true ho2] at h1
  clear ho ho2
  show Calls Tryz.prog 154 #[.agg #[.string (S a.lo.num), .string (S (a.lo.den : Int)), .string (S a.hi.num), .string (S (a.hi.den : Int))]] w _
  go_enter Tryz.func154, Tryz.ntmps154
  go_wp2_with fail
  have sB := hB.size
  refine world_cut (fun X => Below w.heap.size w X ∧ Row X w.heap.size (.cells #[.string (S a.lo.num), .string (S (a.lo.den : Int)), .string (S a.hi.num), .string (S (a.hi.den : Int))] 29)) ⟨C1_hB, C2⟩ ?_
  clear hB sB
  rintro V1 ⟨hB, ra⟩
  obtain ⟨sa, ca0, ca1, ca2, ca3, fa0, fa1, fa2, fa3⟩ := Row.cells4 ra
  refine (h1 _ (he.below hB)).mono ?_
  rintro e W2 ⟨rfl, h1⟩
  clear sa ca0 ca1 ca2 ca3 fa0 fa1 fa2 fa3
  replace hB := hB.trans (h1.mono hB.size)
  replace ra := Row.below ra h1
  clear h1
  obtain ⟨sa, ca0, ca1, ca2, ca3, fa0, fa1, fa2, fa3⟩ := Row.cells4 ra
  go_wp2
  go_ret
  exact ⟨rfl, hB⟩
set_option maxRecDepth 100000 in
set_option maxHeartbeats 4000000 in
theorem index1 (G : FuncId) (eg : ∀ args w, (callFunc G args).run Tryz.prog w = .ok (.enter G args) w) (s : Nat) (a : Iv) (w : World) (r0 : Row w s (.cells #[.string (S a.lo.num), .string (S (a.lo.den : Int)), .string (S a.hi.num), .string (S (a.hi.den : Int))] 29))
    (ha : ∀ W, Below w.heap.size w W → Calls Tryz.prog G #[I a] W (BoolOk false W)) :
    Calls Tryz.prog 183 #[.slice (some ⟨s, 0, none⟩) 1 1, .func (.func G) #[] #[]] w fun e w' => e = .returned (.int .i64 (-1)) ∧ Below w.heap.size w w' := by
  unfold I at ha
  go_enter Tryz.func183, Tryz.ntmps183
  go_wp2
  go_loopw [8] (fun iv wr => ∃ (k : Nat), k ≤ 1 ∧ iv = .int .i64 (k : Int) ∧ Row wr s (.cells #[.string (S a.lo.num), .string (S (a.lo.den : Int)), .string (S a.hi.num), .string (S (a.hi.den : Int))] 29) ∧ Below w.heap.size w wr) (fun iv _ => 1 - (RowKit.intOf iv).toNat)
  case atStart => exact ⟨0, by omega, rfl, r0, Below.refl _ _⟩
  case round =>
    obtain ⟨k, hk, rfl, hr, hB'⟩ := hrel
    obtain ⟨s0, c0, c1, c2, c3, f0, f1, f2, f3⟩ := Row.cells4 hr
    rcases (show k = 0 ∨ k = 1 by omega) with rfl | rfl
    · go_wp2_with (go_at_fn G; refine (ha _ hB').mono ?_; rintro e W1 ⟨rfl, h1⟩)
      exact ⟨⟨1, by omega, rfl, Row.below hr h1, hB'.trans (h1.mono hB'.size)⟩, by simp [RowKit.intOf]⟩
    · go_wp2
      go_ret
      exact ⟨rfl, hB'⟩
set_option maxRecDepth 100000 in
set_option maxHeartbeats 4000000 in
theorem contains1 (G : FuncId) (eg : ∀ args w, (callFunc G args).run Tryz.prog w = .ok (.enter G args) w) (s : Nat) (a : Iv) (w : World) (r0 : Row w s (.cells #[.string (S a.lo.num), .string (S (a.lo.den : Int)), .string (S a.hi.num), .string (S (a.hi.den : Int))] 29))
    (ha : ∀ W, Below w.heap.size w W → Calls Tryz.prog G #[I a] W (BoolOk false W)) :
    Calls Tryz.prog 130 #[.slice (some ⟨s, 0, none⟩) 1 1, .func (.func G) #[] #[]] w (BoolOk false w) := by
  have H := index1 G eg s a w r0 ha
  go_enter Tryz.func130, Tryz.ntmps130
  go_wp2_with fail
  refine H.mono ?_
  rintro e W ⟨rfl, h1⟩
  go_wp2
  go_ret
  exact ⟨rfl, h1⟩
set_option maxRecDepth 100000 in
set_option maxHeartbeats 4000000 in
theorem index2 (G : FuncId) (eg : ∀ args w, (callFunc G args).run Tryz.prog w = .ok (.enter G args) w) (s : Nat) (a b : Iv) (w : World) (r0 : Row w s (.cells #[.string (S a.lo.num), .string (S (a.lo.den : Int)), .string (S a.hi.num), .string (S (a.hi.den : Int)), .string (S b.lo.num), .string (S (b.lo.den : Int)), .string (S b.hi.num), .string (S (b.hi.den : Int))] 29))
    (ha : ∀ W, Below w.heap.size w W → Calls Tryz.prog G #[I a] W (BoolOk false W)) (hb : ∀ W, Below w.heap.size w W → Calls Tryz.prog G #[I b] W (BoolOk false W)) :
    Calls Tryz.prog 183 #[.slice (some ⟨s, 0, none⟩) 2 2, .func (.func G) #[] #[]] w fun e w' => e = .returned (.int .i64 (-1)) ∧ Below w.heap.size w w' := by
  unfold I at ha hb
  go_enter Tryz.func183, Tryz.ntmps183
  go_wp2
  go_loopw [8] (fun iv wr => ∃ (k : Nat), k ≤ 2 ∧ iv = .int .i64 (k : Int) ∧ Row wr s (.cells #[.string (S a.lo.num), .string (S (a.lo.den : Int)), .string (S a.hi.num), .string (S (a.hi.den : Int)), .string (S b.lo.num), .string (S (b.lo.den : Int)), .string (S b.hi.num), .string (S (b.hi.den : Int))] 29) ∧ Below w.heap.size w wr) (fun iv _ => 2 - (RowKit.intOf iv).toNat)
  case atStart => exact ⟨0, by omega, rfl, r0, Below.refl _ _⟩
  case round =>
    obtain ⟨k, hk, rfl, hr, hB'⟩ := hrel
    obtain ⟨s0, c0, c1, c2, c3, c4, c5, c6, c7⟩ := Row.cells8 hr
    rcases (show k = 0 ∨ k = 1 ∨ k = 2 by omega) with rfl | rfl | rfl
    · go_wp2_with (go_at_fn G; refine (ha _ hB').mono ?_; rintro e W1 ⟨rfl, h1⟩)
      exact ⟨⟨1, by omega, rfl, Row.below hr h1, hB'.trans (h1.mono hB'.size)⟩, by simp [RowKit.intOf]⟩
    · go_wp2_with (go_at_fn G; refine (hb _ hB').mono ?_; rintro e W1 ⟨rfl, h1⟩)
      exact ⟨⟨2, by omega, rfl, Row.below hr h1, hB'.trans (h1.mono hB'.size)⟩, by simp [RowKit.intOf]⟩
    · go_wp2
      go_ret
      exact ⟨rfl, hB'⟩
set_option maxRecDepth 100000 in
set_option maxHeartbeats 4000000 in
theorem contains2 (G : FuncId) (eg : ∀ args w, (callFunc G args).run Tryz.prog w = .ok (.enter G args) w) (s : Nat) (a b : Iv) (w : World) (r0 : Row w s (.cells #[.string (S a.lo.num), .string (S (a.lo.den : Int)), .string (S a.hi.num), .string (S (a.hi.den : Int)), .string (S b.lo.num), .string (S (b.lo.den : Int)), .string (S b.hi.num), .string (S (b.hi.den : Int))] 29))
    (ha : ∀ W, Below w.heap.size w W → Calls Tryz.prog G #[I a] W (BoolOk false W)) (hb : ∀ W, Below w.heap.size w W → Calls Tryz.prog G #[I b] W (BoolOk false W)) :
    Calls Tryz.prog 130 #[.slice (some ⟨s, 0, none⟩) 2 2, .func (.func G) #[] #[]] w (BoolOk false w) := by
  have H := index2 G eg s a b w r0 ha hb
  go_enter Tryz.func130, Tryz.ntmps130
  go_wp2_with fail
  refine H.mono ?_
  rintro e W ⟨rfl, h1⟩
  go_wp2
  go_ret
  exact ⟨rfl, h1⟩
set_option maxRecDepth 100000 in
set_option maxHeartbeats 4000000 in
theorem emust (q : Rat) (w : World) : Calls Tryz.prog 63 #[Q q, .int .i64 0] w (QIs q w) := by
  have hB : Below w.heap.size w w := Below.refl _ _
  unfold QIs Q
  go_enter Tryz.func63, Tryz.ntmps63
  go_wp2_with fail
  have sB := hB.size
  refine world_cut (fun X => Below w.heap.size w X ∧ Row X w.heap.size (.cells #[.string (S q.num), .string (S (q.den : Int))] 26) ∧ Row X (w.heap.size + 1) (.cells #[.string ⟨#[]⟩, .string ⟨#[]⟩] 26)) ⟨C1_hB, C2, C2⟩ ?_
  clear hB sB
  rintro V1 ⟨hB, rx, ro⟩
  obtain ⟨sx, cx0, cx1, fx0, fx1⟩ := Row.cells2 rx
  obtain ⟨so, co0, co1, fo0, fo1⟩ := Row.cells2 ro
  refine (echeck_true _).mono ?_
  rintro e W2 ⟨rfl, h1⟩
  clear sx cx0 cx1 fx0 fx1
  clear so co0 co1 fo0 fo1
  replace hB := hB.trans (h1.mono hB.size)
  replace rx := Row.below rx h1
  replace ro := Row.below ro h1
  clear h1
  obtain ⟨sx, cx0, cx1, fx0, fx1⟩ := Row.cells2 rx
  obtain ⟨so, co0, co1, fo0, fo1⟩ := Row.cells2 ro
  go_wp2
  have sB := hB.size
  refine post_cut (fun X => Below w.heap.size w X ∧ Row X w.heap.size (.cells #[.string (S q.num), .string (S (q.den : Int))] 26) ∧ Row X (w.heap.size + 1) (.cells #[.string (S q.num), .string (S (q.den : Int))] 26)) ⟨C1_hB, C3_rx, C3_ro⟩ ?_
  clear rx
  clear sx cx0 cx1 fx0 fx1
  clear ro
  clear so co0 co1 fo0 fo1
  clear hB sB
  rintro V3 ⟨hB, rx, ro⟩
  obtain ⟨sx, cx0, cx1, fx0, fx1⟩ := Row.cells2 rx
  obtain ⟨so, co0, co1, fo0, fo1⟩ := Row.cells2 ro
  refine bodyPost_ret (v := .agg #[.string (S q.num), .string (S (q.den : Int))]) ?res rfl ⟨rfl, hB⟩
  case res => simp [results, Tryz.results63, go_sem, co0, co1]
set_option maxRecDepth 100000 in
set_option maxHeartbeats 4000000 in
theorem eof (F : FuncId) (eg : ∀ args w, (callFunc F args).run Tryz.prog w = .ok (.enter F args) w) (a b c : Rat) (w : World) (H : ∀ W, Below w.heap.size w W → Calls Tryz.prog F #[Q a, Q b] W (QOk c W)) :
    Calls Tryz.prog 139 #[.func (.func F) #[] #[], Q a, Q b] w (QIs c w) := by
  have HM := emust c
  unfold QOk at H
  unfold QIs at *
  obtain ⟨ra, rb, ro, hB⟩ : Row (((w.alloc (.cells #[.string (S a.num), .string (S (a.den : Int))] 26)).alloc (.cells #[.string (S b.num), .string (S (b.den : Int))] 26)).alloc (.cells #[.string ⟨#[]⟩, .string ⟨#[]⟩] 26)) w.heap.size (.cells #[.string (S a.num), .string (S (a.den : Int))] 26) ∧ Row (((w.alloc (.cells #[.string (S a.num), .string (S (a.den : Int))] 26)).alloc (.cells #[.string (S b.num), .string (S (b.den : Int))] 26)).alloc (.cells #[.string ⟨#[]⟩, .string ⟨#[]⟩] 26)) (w.heap.size + 1) (.cells #[.string (S b.num), .string (S (b.den : Int))] 26) ∧ Row (((w.alloc (.cells #[.string (S a.num), .string (S (a.den : Int))] 26)).alloc (.cells #[.string (S b.num), .string (S (b.den : Int))] 26)).alloc (.cells #[.string ⟨#[]⟩, .string ⟨#[]⟩] 26)) (w.heap.size + 1 + 1) (.cells #[.string ⟨#[]⟩, .string ⟨#[]⟩] 26) ∧ Below w.heap.size w (((w.alloc (.cells #[.string (S a.num), .string (S (a.den : Int))] 26)).alloc (.cells #[.string (S b.num), .string (S (b.den : Int))] 26)).alloc (.cells #[.string ⟨#[]⟩, .string ⟨#[]⟩] 26)) := by
    refine ⟨C2, C2, C2, ?_⟩
    have hB := Below.refl w.heap.size w
    exact C1_hB
  have H1 := H _ hB
  clear H
  show Calls Tryz.prog 139 #[.func (.func F) #[] #[], .agg #[.string (S a.num), .string (S (a.den : Int))], .agg #[.string (S b.num), .string (S (b.den : Int))]] w _
  go_enter Tryz.func139, Tryz.ntmps139
  go_wp2_with (go_at_fn F; refine H1.mono ?_; rintro e W1 ⟨rfl, h1⟩; replace hB := hB.trans (h1.mono hB.size); replace ra := Row.below ra h1; replace rb := Row.below rb h1; replace ro := Row.below ro h1)
  obtain ⟨sa, ca0, ca1, fa0, fa1⟩ := Row.cells2 ra
  obtain ⟨sb, cb0, cb1, fb0, fb1⟩ := Row.cells2 rb
  obtain ⟨so, co0, co1, fo0, fo1⟩ := Row.cells2 ro
  go_wp2_with fail
  refine (HM _).mono ?_
  rintro e W1 ⟨rfl, h1⟩
  clear sa ca0 ca1 fa0 fa1
  clear sb cb0 cb1 fb0 fb1
  clear so co0 co1 fo0 fo1
  replace hB := hB.trans (h1.mono hB.size)
  replace ra := Row.below ra h1
  replace rb := Row.below rb h1
  replace ro := Row.below ro h1
  clear h1
  obtain ⟨sa, ca0, ca1, fa0, fa1⟩ := Row.cells2 ra
  obtain ⟨sb, cb0, cb1, fb0, fb1⟩ := Row.cells2 rb
  obtain ⟨so, co0, co1, fo0, fo1⟩ := Row.cells2 ro
  unfold Q
  go_wp2
  have sB := hB.size
  refine post_cut (fun X => Below w.heap.size w X ∧ Row X w.heap.size (.cells #[.string (S a.num), .string (S (a.den : Int))] 26) ∧ Row X (w.heap.size + 1) (.cells #[.string (S b.num), .string (S (b.den : Int))] 26) ∧ Row X (w.heap.size + 1 + 1) (.cells #[.string (S c.num), .string (S (c.den : Int))] 26)) ⟨C1_hB, C3_ra, C3_rb, C3_ro⟩ ?_
  clear ra
  clear sa ca0 ca1 fa0 fa1
  clear rb
  clear sb cb0 cb1 fb0 fb1
  clear ro
  clear so co0 co1 fo0 fo1
  clear hB sB
  rintro V2 ⟨hB, ra, rb, ro⟩
  obtain ⟨sa, ca0, ca1, fa0, fa1⟩ := Row.cells2 ra
  obtain ⟨sb, cb0, cb1, fb0, fb1⟩ := Row.cells2 rb
  obtain ⟨so, co0, co1, fo0, fo1⟩ := Row.cells2 ro
  refine bodyPost_ret (v := .agg #[.string (S c.num), .string (S (c.den : Int))]) ?res rfl ⟨rfl, hB⟩
  case res => simp [results, Tryz.results139, go_sem, co0, co1]
/-- Fractions as cells. -/
def flatQ : List Rat → List Value
  | [] => []
  | q :: l => .string (S q.num) :: .string (S (q.den : Int)) :: flatQ l
def nthQ (l : List Rat) (k : Nat) : Rat := l.getD k 0
theorem flatQ_get : ∀ (l : List Rat) (k : Nat), k < l.length → (flatQ l)[k * 2]? = some (.string (S (nthQ l k).num)) ∧ (flatQ l)[k * 2 + 1]? = some (.string (S ((nthQ l k).den : Int)))
  | [], k, h => by simp at h
  | q :: l, 0, _ => by simp [flatQ, nthQ]
  | q :: l, k + 1, h => by
    have := flatQ_get l k (by simpa using h)
    have e : (k + 1) * 2 = k * 2 + 1 + 1 := by omega
    rw [e]
    simpa [flatQ, nthQ] using this
def minTo (l : List Rat) : Nat → Rat
  | 0 => nthQ l 0
  | k + 1 => minQ (minTo l k) (nthQ l (k + 1))
def maxTo (l : List Rat) : Nat → Rat
  | 0 => nthQ l 0
  | k + 1 => maxQ (maxTo l k) (nthQ l (k + 1))
theorem minTo_dig {d : Nat} {l : List Rat} (hl : ∀ k, k < l.length → QDig d (nthQ l k)) : ∀ k, k < l.length → QDig d (minTo l k)
  | 0, h => hl 0 h
  | k + 1, h => minQ_dig (minTo_dig hl k (by omega)) (hl _ h)
theorem maxTo_dig {d : Nat} {l : List Rat} (hl : ∀ k, k < l.length → QDig d (nthQ l k)) : ∀ k, k < l.length → QDig d (maxTo l k)
  | 0, h => hl 0 h
  | k + 1, h => maxQ_dig (maxTo_dig hl k (by omega)) (hl _ h)
theorem cells_flat {W : World} {s : Nat} {l : List Rat} {t : TypeId} (h : Row W s (.cells (flatQ l).toArray t)) (k : Nat) (hk : k < l.length) :
    W.cell? ⟨s, k * 2, none⟩ = some (.string (S (nthQ l k).num)) ∧ W.cell? ⟨s, k * 2 + 1, none⟩ = some (.string (S ((nthQ l k).den : Int))) := by
  obtain ⟨h1, h2⟩ := flatQ_get l k hk
  refine ⟨(cell_of_row _ _ _ _ _ _ h.2).trans ?_, (cell_of_row _ _ _ _ _ _ h.2).trans ?_⟩
  · rw [List.getElem?_toArray]; exact h1
  · rw [List.getElem?_toArray]; exact h2
set_option maxRecDepth 100000 in
set_option maxHeartbeats 4000000 in
theorem emin (s : Nat) (l : List Rat) (hn : 0 < l.length) (hm : l.length ≤ 100) (hl : ∀ k, k < l.length → QDig 200 (nthQ l k)) (w : World) (he : Env w) (r0 : Row w s (.cells (flatQ l).toArray 26)) :
    Calls Tryz.prog 157 #[.slice (some ⟨s, 0, none⟩) l.length l.length, .func (.func 15) #[] #[]] w (QIs (minTo l (l.length - 1)) w) := by
  have LEN := Lib.hid hn
  obtain ⟨z0, z1⟩ := cells_flat r0 0 hn
  have ne0 : s ≠ w.heap.size := by have := r0.1; omega
  have ne1 : s ≠ w.heap.size + 1 := by have := r0.1; omega
  have ss := r0.1
  have sh0 : Hid (minTo l 0 = nthQ l 0) := Lib.hid rfl
  have hle : (1 : Int) ≤ (l.length : Int) := by omega
  have HL := Lib.hid hl
  have HM := Lib.hid (minTo_dig hl)
  obtain ⟨n, hN⟩ : ∃ n, n = l.length := ⟨_, rfl⟩
  have NN := Lib.hid hN
  rw [← hN] at hle hm ⊢
  clear hn hl hN
  simp only [Nat.zero_mul, Nat.zero_add] at z0 z1
  have hB : Below w.heap.size w w := Below.refl _ _
  unfold QIs Q
  go_enter Tryz.func157, Tryz.ntmps157
  go_wp2
  have R1 : Row ((w.alloc (.cells #[.string ⟨#[]⟩, .string ⟨#[]⟩] 26)).alloc (.cells #[.string (S (nthQ l 0).num), .string (S ((nthQ l 0).den : Int))] 26)) s (.cells (flatQ l).toArray 26) := (r0.alloc _).alloc _
  have R2 : Row ((w.alloc (.cells #[.string ⟨#[]⟩, .string ⟨#[]⟩] 26)).alloc (.cells #[.string (S (nthQ l 0).num), .string (S ((nthQ l 0).den : Int))] 26)) w.heap.size (.cells #[.string ⟨#[]⟩, .string ⟨#[]⟩] 26) := C2
  have R3 : Row ((w.alloc (.cells #[.string ⟨#[]⟩, .string ⟨#[]⟩] 26)).alloc (.cells #[.string (S (nthQ l 0).num), .string (S ((nthQ l 0).den : Int))] 26)) (w.heap.size + 1) (.cells #[.string (S (minTo l (1 - 1)).num), .string (S ((minTo l (1 - 1)).den : Int))] 26) := by rw [show 1 - 1 = 0 from rfl, sh0.out]; exact C2
  have R4 : Below w.heap.size w ((w.alloc (.cells #[.string ⟨#[]⟩, .string ⟨#[]⟩] 26)).alloc (.cells #[.string (S (nthQ l 0).num), .string (S ((nthQ l 0).den : Int))] 26)) := C1_hB
  clear r0 hB
  go_loopw [6] (fun iv wr => ∃ (k : Nat), 1 ≤ k ∧ k ≤ n ∧ iv = .int .i64 (k : Int) ∧ Row wr s (.cells (flatQ l).toArray 26) ∧ Row wr w.heap.size (.cells #[.string ⟨#[]⟩, .string ⟨#[]⟩] 26) ∧ Row wr (w.heap.size + 1) (.cells #[.string (S (minTo l (k - 1)).num), .string (S ((minTo l (k - 1)).den : Int))] 26) ∧ Below w.heap.size w wr) (fun iv _ => n - (RowKit.intOf iv).toNat)
  case atStart => exact ⟨1, by omega, by omega, rfl, R1, R2, R3, R4⟩
  case round =>
    obtain ⟨k, hk1, hkn, rfl, r0, ro, rm, hB⟩ := hrel
    clear R1 R2 R3 R4 z0 z1
    have sB := hB.size
    have ss := r0.1
    have ne : s ≠ w.heap.size + 1 := by omega
    rcases Nat.lt_or_ge k n with hlt | hge
    · have hlt' : (k : Int) < (n : Int) := by omega
      have hpos : (0 : Int) ≤ (k : Int) := by omega
      obtain ⟨x0, x1⟩ := cells_flat r0 k (by rw [← NN.out]; omega)
      have hx := HL.out k (by rw [← NN.out]; omega)
      have hm' := HM.out (k - 1) (by rw [← NN.out]; omega)
      obtain ⟨x, hxe⟩ : ∃ x, nthQ l k = x := ⟨_, rfl⟩
      obtain ⟨m, hme⟩ : ∃ m, minTo l (k - 1) = m := ⟨_, rfl⟩
      rw [hxe] at x0 x1 hx
      rw [hme] at rm hm'
      have XX := Lib.hid hxe
      have MM := Lib.hid hme
      clear hxe hme
      obtain ⟨sm, m0, m1, m2, m3⟩ := Row.cells2 rm
      have HC := fun W (h : Env W) => qcompare x m hx hm' W h
      have hcm : cmpQ x m < 0 ↔ x < m := cmpQ_lt
      have hg := Classical.em (cmpQ x m < 0)
      generalize cmpQ x m = g at *
      rcases hg with hg | hg
      · have HG := Lib.hid hg
        have G : Hid (minQ m x = x) := Lib.hid (by unfold minQ; rw [if_pos (hcm.1 hg)])
        have gg : g < 0 := hg
        have KE : ∀ X, Row X s (.cells (flatQ l).toArray 26) → Row X (w.heap.size + 1) (.cells #[.string (S m.num), .string (S (m.den : Int))] 26) → (X.cell? ⟨s, k * 2, none⟩ = some (.string (S x.num)) ∧ X.cell? ⟨s, k * 2 + 1, none⟩ = some (.string (S (x.den : Int))) ∧ X.cell? ⟨w.heap.size + 1, 0, none⟩ = some (.string (S m.num)) ∧ X.cell? ⟨w.heap.size + 1, 1, none⟩ = some (.string (S (m.den : Int)))) := fun X h1 h2 => by
          obtain ⟨y0, y1⟩ := cells_flat h1 k (by rw [← NN.out]; omega)
          rw [XX.out] at y0 y1
          exact ⟨y0, y1, (Row.cells2 h2).2.1, (Row.cells2 h2).2.2.1⟩
        clear hg hcm
        go_wp2_with fail
        go_region_held3 (fun X => X.cell? ⟨s, k * 2, none⟩ = some (.string (S x.num)) ∧ X.cell? ⟨s, k * 2 + 1, none⟩ = some (.string (S (x.den : Int))) ∧ X.cell? ⟨w.heap.size + 1, 0, none⟩ = some (.string (S m.num)) ∧ X.cell? ⟨w.heap.size + 1, 1, none⟩ = some (.string (S (m.den : Int)))) (first | exact KE _ r0 rm) (first
          | (go_at_call 15; refine (HC _ (by first | exact he.below hB | exact he.below hB.drew | exact he.below (below_drewN hB _))).mono ?_; rintro e W ⟨rfl, h1⟩; (try replace h1 := below_of_drew h1); replace hB := hB.trans (h1.mono hB.size); replace r0 := Row.below r0 h1; replace ro := Row.below ro h1; replace rm := Row.below rm h1))
        obtain ⟨x0, x1⟩ := cells_flat r0 k (by rw [← NN.out]; omega)
        rw [XX.out] at x0 x1
        obtain ⟨sm, m0, m1, m2, m3⟩ := Row.cells2 rm
        have ss := r0.1
        have ne : s ≠ w.heap.size + 1 := by omega
        go_wp2
        go_roundw
        case rel =>
          refine ⟨k + 1, by omega, by omega, by first | rfl | go_num, ?_, ?_, ?_, ?_⟩
          · exact C3_r0
          · exact C3_ro
          · rw [show k + 1 - 1 = (k - 1) + 1 by omega]
            have e : minTo l (k - 1 + 1) = minQ m x := by show minQ (minTo l (k - 1)) (nthQ l (k - 1 + 1)) = _; rw [show k - 1 + 1 = k by omega, XX.out, MM.out]
            rw [e, G.out]
            exact C3_rm
          · exact C1_hB
        case measure => simp [RowKit.intOf]; omega
      · have HG := Lib.hid hg
        have G : Hid (minQ m x = m) := Lib.hid (by unfold minQ; rw [if_neg (fun h => hg (hcm.2 h))])
        have gg : ¬ g < 0 := hg
        have KE : ∀ X, Row X s (.cells (flatQ l).toArray 26) → Row X (w.heap.size + 1) (.cells #[.string (S m.num), .string (S (m.den : Int))] 26) → (X.cell? ⟨s, k * 2, none⟩ = some (.string (S x.num)) ∧ X.cell? ⟨s, k * 2 + 1, none⟩ = some (.string (S (x.den : Int))) ∧ X.cell? ⟨w.heap.size + 1, 0, none⟩ = some (.string (S m.num)) ∧ X.cell? ⟨w.heap.size + 1, 1, none⟩ = some (.string (S (m.den : Int)))) := fun X h1 h2 => by
          obtain ⟨y0, y1⟩ := cells_flat h1 k (by rw [← NN.out]; omega)
          rw [XX.out] at y0 y1
          exact ⟨y0, y1, (Row.cells2 h2).2.1, (Row.cells2 h2).2.2.1⟩
        clear hg hcm
        go_wp2_with fail
        go_region_held3 (fun X => X.cell? ⟨s, k * 2, none⟩ = some (.string (S x.num)) ∧ X.cell? ⟨s, k * 2 + 1, none⟩ = some (.string (S (x.den : Int))) ∧ X.cell? ⟨w.heap.size + 1, 0, none⟩ = some (.string (S m.num)) ∧ X.cell? ⟨w.heap.size + 1, 1, none⟩ = some (.string (S (m.den : Int)))) (first | exact KE _ r0 rm) (first
          | (go_at_call 15; refine (HC _ (by first | exact he.below hB | exact he.below hB.drew | exact he.below (below_drewN hB _))).mono ?_; rintro e W ⟨rfl, h1⟩; (try replace h1 := below_of_drew h1); replace hB := hB.trans (h1.mono hB.size); replace r0 := Row.below r0 h1; replace ro := Row.below ro h1; replace rm := Row.below rm h1))
        obtain ⟨x0, x1⟩ := cells_flat r0 k (by rw [← NN.out]; omega)
        rw [XX.out] at x0 x1
        obtain ⟨sm, m0, m1, m2, m3⟩ := Row.cells2 rm
        have ss := r0.1
        have ne : s ≠ w.heap.size + 1 := by omega
        go_wp2
        go_roundw
        case rel =>
          refine ⟨k + 1, by omega, by omega, by first | rfl | go_num, ?_, ?_, ?_, ?_⟩
          · exact C3_r0
          · exact C3_ro
          · rw [show k + 1 - 1 = (k - 1) + 1 by omega]
            have e : minTo l (k - 1 + 1) = minQ m x := by show minQ (minTo l (k - 1)) (nthQ l (k - 1 + 1)) = _; rw [show k - 1 + 1 = k by omega, XX.out, MM.out]
            rw [e, G.out]
            exact C3_rm
          · exact C1_hB
        case measure => simp [RowKit.intOf]; omega
    · obtain rfl : k = n := by omega
      obtain ⟨sm, m0, m1, m2, m3⟩ := Row.cells2 rm
      obtain ⟨so, o0, o1, o2, o3⟩ := Row.cells2 ro
      go_wp2
      have RR : Row ((wr.setCell ⟨w.heap.size, 0, none⟩ (.string (S (minTo l (k - 1)).num))).setCell ⟨w.heap.size, 1, none⟩ (.string (S ((minTo l (k - 1)).den : Int)))) w.heap.size (.cells #[.string (S (minTo l (k - 1)).num), .string (S ((minTo l (k - 1)).den : Int))] 26) := Row.set2 ro
      obtain ⟨_, p0, p1, _, _⟩ := Row.cells2 RR
      have hBB : Below w.heap.size w ((wr.setCell ⟨w.heap.size, 0, none⟩ (.string (S (minTo l (k - 1)).num))).setCell ⟨w.heap.size, 1, none⟩ (.string (S ((minTo l (k - 1)).den : Int)))) := C1_hB
      refine bodyPost_ret (v := .agg #[.string (S (minTo l (k - 1)).num), .string (S ((minTo l (k - 1)).den : Int))]) ?res rfl ⟨rfl, hBB⟩
      case res => simp [results, Tryz.results157, go_sem, p0, p1]
set_option maxRecDepth 100000 in
set_option maxHeartbeats 4000000 in
theorem emax (s : Nat) (l : List Rat) (hn : 0 < l.length) (hm : l.length ≤ 100) (hl : ∀ k, k < l.length → QDig 200 (nthQ l k)) (w : World) (he : Env w) (r0 : Row w s (.cells (flatQ l).toArray 26)) :
    Calls Tryz.prog 158 #[.slice (some ⟨s, 0, none⟩) l.length l.length, .func (.func 15) #[] #[]] w (QIs (maxTo l (l.length - 1)) w) := by
  have LEN := Lib.hid hn
  obtain ⟨z0, z1⟩ := cells_flat r0 0 hn
  have ne0 : s ≠ w.heap.size := by have := r0.1; omega
  have ne1 : s ≠ w.heap.size + 1 := by have := r0.1; omega
  have ss := r0.1
  have sh0 : Hid (maxTo l 0 = nthQ l 0) := Lib.hid rfl
  have hle : (1 : Int) ≤ (l.length : Int) := by omega
  have HL := Lib.hid hl
  have HM := Lib.hid (maxTo_dig hl)
  obtain ⟨n, hN⟩ : ∃ n, n = l.length := ⟨_, rfl⟩
  have NN := Lib.hid hN
  rw [← hN] at hle hm ⊢
  clear hn hl hN
  simp only [Nat.zero_mul, Nat.zero_add] at z0 z1
  have hB : Below w.heap.size w w := Below.refl _ _
  unfold QIs Q
  go_enter Tryz.func158, Tryz.ntmps158
  go_wp2
  have R1 : Row ((w.alloc (.cells #[.string ⟨#[]⟩, .string ⟨#[]⟩] 26)).alloc (.cells #[.string (S (nthQ l 0).num), .string (S ((nthQ l 0).den : Int))] 26)) s (.cells (flatQ l).toArray 26) := (r0.alloc _).alloc _
  have R2 : Row ((w.alloc (.cells #[.string ⟨#[]⟩, .string ⟨#[]⟩] 26)).alloc (.cells #[.string (S (nthQ l 0).num), .string (S ((nthQ l 0).den : Int))] 26)) w.heap.size (.cells #[.string ⟨#[]⟩, .string ⟨#[]⟩] 26) := C2
  have R3 : Row ((w.alloc (.cells #[.string ⟨#[]⟩, .string ⟨#[]⟩] 26)).alloc (.cells #[.string (S (nthQ l 0).num), .string (S ((nthQ l 0).den : Int))] 26)) (w.heap.size + 1) (.cells #[.string (S (maxTo l (1 - 1)).num), .string (S ((maxTo l (1 - 1)).den : Int))] 26) := by rw [show 1 - 1 = 0 from rfl, sh0.out]; exact C2
  have R4 : Below w.heap.size w ((w.alloc (.cells #[.string ⟨#[]⟩, .string ⟨#[]⟩] 26)).alloc (.cells #[.string (S (nthQ l 0).num), .string (S ((nthQ l 0).den : Int))] 26)) := C1_hB
  clear r0 hB
  go_loopw [6] (fun iv wr => ∃ (k : Nat), 1 ≤ k ∧ k ≤ n ∧ iv = .int .i64 (k : Int) ∧ Row wr s (.cells (flatQ l).toArray 26) ∧ Row wr w.heap.size (.cells #[.string ⟨#[]⟩, .string ⟨#[]⟩] 26) ∧ Row wr (w.heap.size + 1) (.cells #[.string (S (maxTo l (k - 1)).num), .string (S ((maxTo l (k - 1)).den : Int))] 26) ∧ Below w.heap.size w wr) (fun iv _ => n - (RowKit.intOf iv).toNat)
  case atStart => exact ⟨1, by omega, by omega, rfl, R1, R2, R3, R4⟩
  case round =>
    obtain ⟨k, hk1, hkn, rfl, r0, ro, rm, hB⟩ := hrel
    clear R1 R2 R3 R4 z0 z1
    have sB := hB.size
    have ss := r0.1
    have ne : s ≠ w.heap.size + 1 := by omega
    rcases Nat.lt_or_ge k n with hlt | hge
    · have hlt' : (k : Int) < (n : Int) := by omega
      have hpos : (0 : Int) ≤ (k : Int) := by omega
      obtain ⟨x0, x1⟩ := cells_flat r0 k (by rw [← NN.out]; omega)
      have hx := HL.out k (by rw [← NN.out]; omega)
      have hm' := HM.out (k - 1) (by rw [← NN.out]; omega)
      obtain ⟨x, hxe⟩ : ∃ x, nthQ l k = x := ⟨_, rfl⟩
      obtain ⟨m, hme⟩ : ∃ m, maxTo l (k - 1) = m := ⟨_, rfl⟩
      rw [hxe] at x0 x1 hx
      rw [hme] at rm hm'
      have XX := Lib.hid hxe
      have MM := Lib.hid hme
      clear hxe hme
      obtain ⟨sm, m0, m1, m2, m3⟩ := Row.cells2 rm
      have HC := fun W (h : Env W) => qcompare x m hx hm' W h
      have hcm : 0 < cmpQ x m ↔ m < x := cmpQ_gt
      have hg := Classical.em (0 < cmpQ x m)
      generalize cmpQ x m = g at *
      rcases hg with hg | hg
      · have HG := Lib.hid hg
        have G : Hid (maxQ m x = x) := Lib.hid (by unfold maxQ; rw [if_pos (hcm.1 hg)])
        have gg : 0 < g := hg
        have KE : ∀ X, Row X s (.cells (flatQ l).toArray 26) → Row X (w.heap.size + 1) (.cells #[.string (S m.num), .string (S (m.den : Int))] 26) → (X.cell? ⟨s, k * 2, none⟩ = some (.string (S x.num)) ∧ X.cell? ⟨s, k * 2 + 1, none⟩ = some (.string (S (x.den : Int))) ∧ X.cell? ⟨w.heap.size + 1, 0, none⟩ = some (.string (S m.num)) ∧ X.cell? ⟨w.heap.size + 1, 1, none⟩ = some (.string (S (m.den : Int)))) := fun X h1 h2 => by
          obtain ⟨y0, y1⟩ := cells_flat h1 k (by rw [← NN.out]; omega)
          rw [XX.out] at y0 y1
          exact ⟨y0, y1, (Row.cells2 h2).2.1, (Row.cells2 h2).2.2.1⟩
        clear hg hcm
        go_wp2_with fail
        go_region_held3 (fun X => X.cell? ⟨s, k * 2, none⟩ = some (.string (S x.num)) ∧ X.cell? ⟨s, k * 2 + 1, none⟩ = some (.string (S (x.den : Int))) ∧ X.cell? ⟨w.heap.size + 1, 0, none⟩ = some (.string (S m.num)) ∧ X.cell? ⟨w.heap.size + 1, 1, none⟩ = some (.string (S (m.den : Int)))) (first | exact KE _ r0 rm) (first
          | (go_at_call 15; refine (HC _ (by first | exact he.below hB | exact he.below hB.drew | exact he.below (below_drewN hB _))).mono ?_; rintro e W ⟨rfl, h1⟩; (try replace h1 := below_of_drew h1); replace hB := hB.trans (h1.mono hB.size); replace r0 := Row.below r0 h1; replace ro := Row.below ro h1; replace rm := Row.below rm h1))
        obtain ⟨x0, x1⟩ := cells_flat r0 k (by rw [← NN.out]; omega)
        rw [XX.out] at x0 x1
        obtain ⟨sm, m0, m1, m2, m3⟩ := Row.cells2 rm
        have ss := r0.1
        have ne : s ≠ w.heap.size + 1 := by omega
        go_wp2
        go_roundw
        case rel =>
          refine ⟨k + 1, by omega, by omega, by first | rfl | go_num, ?_, ?_, ?_, ?_⟩
          · exact C3_r0
          · exact C3_ro
          · rw [show k + 1 - 1 = (k - 1) + 1 by omega]
            have e : maxTo l (k - 1 + 1) = maxQ m x := by show maxQ (maxTo l (k - 1)) (nthQ l (k - 1 + 1)) = _; rw [show k - 1 + 1 = k by omega, XX.out, MM.out]
            rw [e, G.out]
            exact C3_rm
          · exact C1_hB
        case measure => simp [RowKit.intOf]; omega
      · have HG := Lib.hid hg
        have G : Hid (maxQ m x = m) := Lib.hid (by unfold maxQ; rw [if_neg (fun h => hg (hcm.2 h))])
        have gg : ¬ 0 < g := hg
        have KE : ∀ X, Row X s (.cells (flatQ l).toArray 26) → Row X (w.heap.size + 1) (.cells #[.string (S m.num), .string (S (m.den : Int))] 26) → (X.cell? ⟨s, k * 2, none⟩ = some (.string (S x.num)) ∧ X.cell? ⟨s, k * 2 + 1, none⟩ = some (.string (S (x.den : Int))) ∧ X.cell? ⟨w.heap.size + 1, 0, none⟩ = some (.string (S m.num)) ∧ X.cell? ⟨w.heap.size + 1, 1, none⟩ = some (.string (S (m.den : Int)))) := fun X h1 h2 => by
          obtain ⟨y0, y1⟩ := cells_flat h1 k (by rw [← NN.out]; omega)
          rw [XX.out] at y0 y1
          exact ⟨y0, y1, (Row.cells2 h2).2.1, (Row.cells2 h2).2.2.1⟩
        clear hg hcm
        go_wp2_with fail
        go_region_held3 (fun X => X.cell? ⟨s, k * 2, none⟩ = some (.string (S x.num)) ∧ X.cell? ⟨s, k * 2 + 1, none⟩ = some (.string (S (x.den : Int))) ∧ X.cell? ⟨w.heap.size + 1, 0, none⟩ = some (.string (S m.num)) ∧ X.cell? ⟨w.heap.size + 1, 1, none⟩ = some (.string (S (m.den : Int)))) (first | exact KE _ r0 rm) (first
          | (go_at_call 15; refine (HC _ (by first | exact he.below hB | exact he.below hB.drew | exact he.below (below_drewN hB _))).mono ?_; rintro e W ⟨rfl, h1⟩; (try replace h1 := below_of_drew h1); replace hB := hB.trans (h1.mono hB.size); replace r0 := Row.below r0 h1; replace ro := Row.below ro h1; replace rm := Row.below rm h1))
        obtain ⟨x0, x1⟩ := cells_flat r0 k (by rw [← NN.out]; omega)
        rw [XX.out] at x0 x1
        obtain ⟨sm, m0, m1, m2, m3⟩ := Row.cells2 rm
        have ss := r0.1
        have ne : s ≠ w.heap.size + 1 := by omega
        go_wp2
        go_roundw
        case rel =>
          refine ⟨k + 1, by omega, by omega, by first | rfl | go_num, ?_, ?_, ?_, ?_⟩
          · exact C3_r0
          · exact C3_ro
          · rw [show k + 1 - 1 = (k - 1) + 1 by omega]
            have e : maxTo l (k - 1 + 1) = maxQ m x := by show maxQ (maxTo l (k - 1)) (nthQ l (k - 1 + 1)) = _; rw [show k - 1 + 1 = k by omega, XX.out, MM.out]
            rw [e, G.out]
            exact C3_rm
          · exact C1_hB
        case measure => simp [RowKit.intOf]; omega
    · obtain rfl : k = n := by omega
      obtain ⟨sm, m0, m1, m2, m3⟩ := Row.cells2 rm
      obtain ⟨so, o0, o1, o2, o3⟩ := Row.cells2 ro
      go_wp2
      have RR : Row ((wr.setCell ⟨w.heap.size, 0, none⟩ (.string (S (maxTo l (k - 1)).num))).setCell ⟨w.heap.size, 1, none⟩ (.string (S ((maxTo l (k - 1)).den : Int)))) w.heap.size (.cells #[.string (S (maxTo l (k - 1)).num), .string (S ((maxTo l (k - 1)).den : Int))] 26) := Row.set2 ro
      obtain ⟨_, p0, p1, _, _⟩ := Row.cells2 RR
      have hBB : Below w.heap.size w ((wr.setCell ⟨w.heap.size, 0, none⟩ (.string (S (maxTo l (k - 1)).num))).setCell ⟨w.heap.size, 1, none⟩ (.string (S ((maxTo l (k - 1)).den : Int)))) := C1_hB
      refine bodyPost_ret (v := .agg #[.string (S (maxTo l (k - 1)).num), .string (S ((maxTo l (k - 1)).den : Int))]) ?res rfl ⟨rfl, hBB⟩
      case res => simp [results, Tryz.results158, go_sem, p0, p1]
set_option maxRecDepth 100000 in
set_option maxHeartbeats 4000000 in
theorem ehull (s : Nat) (l : List Rat) (hn : 0 < l.length) (hm : l.length ≤ 100) (hl : ∀ k, k < l.length → QDig 200 (nthQ l k)) (w : World) (he : Env w) (r0 : Row w s (.cells (flatQ l).toArray 26)) :
    Calls Tryz.prog 113 #[.slice (some ⟨s, 0, none⟩) l.length l.length] w fun e w' => e = .returned (I ⟨minTo l (l.length - 1), maxTo l (l.length - 1)⟩) ∧ Below w.heap.size w w' := by
  have hB : Below w.heap.size w w := Below.refl _ _
  have H1 := fun W (h : Env W) (r : Row W s (.cells (flatQ l).toArray 26)) => emin s l hn hm hl W h r
  have H2 := fun W (h : Env W) (r : Row W s (.cells (flatQ l).toArray 26)) => emax s l hn hm hl W h r
  clear hn hm hl
  generalize minTo l (l.length - 1) = x at *
  generalize maxTo l (l.length - 1) = y at *
  generalize l.length = n at *
  unfold QIs Q at H1 H2
  unfold I
  have ss := r0.1
  go_enter Tryz.func113, Tryz.ntmps113
  go_wp2_with fail
  refine world_cut (fun X => Below w.heap.size w X ∧ Row X s (.cells (flatQ l).toArray 26) ∧ Row X w.heap.size (.cells #[.string ⟨#[]⟩, .string ⟨#[]⟩, .string ⟨#[]⟩, .string ⟨#[]⟩] 29)) ⟨C1_hB, r0.alloc _, C2⟩ ?_
  clear hB r0
  rintro V ⟨hB, r0, ro⟩
  refine (H1 _ (he.below hB) r0).mono ?_
  rintro e W1 ⟨rfl, h1⟩
  replace hB := hB.trans (h1.mono hB.size)
  replace r0 := Row.below r0 h1
  replace ro := Row.below ro h1
  go_wp2_with fail
  refine (H2 _ (he.below hB) r0).mono ?_
  rintro e W2 ⟨rfl, h2⟩
  replace hB := hB.trans (h2.mono hB.size)
  replace ro := Row.below ro h2
  clear h1 h2 r0
  obtain ⟨so, co0, co1, co2, co3, fo0, fo1, fo2, fo3⟩ := Row.cells4 ro
  go_wp2
  have sB := hB.size
  refine post_cut (fun X => Below w.heap.size w X ∧ Row X w.heap.size (.cells #[.string (S x.num), .string (S (x.den : Int)), .string (S y.num), .string (S (y.den : Int))] 29)) ⟨C1_hB, C3_ro⟩ ?_
  clear ro
  clear so co0 co1 co2 co3 fo0 fo1 fo2 fo3
  clear hB sB
  rintro V1 ⟨hB, ro⟩
  obtain ⟨so, co0, co1, co2, co3, fo0, fo1, fo2, fo3⟩ := Row.cells4 ro
  refine bodyPost_ret (v := .agg #[.string (S x.num), .string (S (x.den : Int)), .string (S y.num), .string (S (y.den : Int))]) ?res rfl ⟨rfl, hB⟩
  case res => simp [results, Tryz.results113, go_sem, co0, co1, co2, co3]
theorem ehull4 (s : Nat) (a b c d : Rat) (ha : QDig 200 a) (hb : QDig 200 b) (hc : QDig 200 c) (hd : QDig 200 d) (w : World) (he : Env w) (r0 : Row w s (.cells #[.string (S a.num), .string (S (a.den : Int)), .string (S b.num), .string (S (b.den : Int)), .string (S c.num), .string (S (c.den : Int)), .string (S d.num), .string (S (d.den : Int))] 26)) :
    Calls Tryz.prog 113 #[.slice (some ⟨s, 0, none⟩) 4 4] w fun e w' => e = .returned (I ⟨min4 a b c d, max4 a b c d⟩) ∧ Below w.heap.size w w' :=
  ehull s [a, b, c, d] (by simp) (by simp) (fun k hk => by
    rcases (show k = 0 ∨ k = 1 ∨ k = 2 ∨ k = 3 by simp only [List.length_cons, List.length_nil] at hk; omega) with rfl | rfl | rfl | rfl <;> assumption) w he r0
theorem ehull2 (s : Nat) (a b : Rat) (ha : QDig 200 a) (hb : QDig 200 b) (w : World) (he : Env w) (r0 : Row w s (.cells #[.string (S a.num), .string (S (a.den : Int)), .string (S b.num), .string (S (b.den : Int))] 26)) :
    Calls Tryz.prog 113 #[.slice (some ⟨s, 0, none⟩) 2 2] w fun e w' => e = .returned (I ⟨minQ a b, maxQ a b⟩) ∧ Below w.heap.size w w' :=
  ehull s [a, b] (by simp) (by simp) (fun k hk => by
    rcases (show k = 0 ∨ k = 1 by simp only [List.length_cons, List.length_nil] at hk; omega) with rfl | rfl <;> assumption) w he r0
end Go.Proofs.YtngohpgkceedeaaGreatDoor
