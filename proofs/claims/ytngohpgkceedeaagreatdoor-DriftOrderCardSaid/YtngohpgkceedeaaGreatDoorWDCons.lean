/-
  drift.At where it hands back an error ahead of its loop; drift.Contradictions.
-/
import Derived.Test.YtngohpgkceedeaaGreatDoorWDAt
set_option linter.unusedSimpArgs false
set_option linter.unusedVariables false
namespace Go.Proofs.YtngohpgkceedeaaGreatDoor
open Go Go.RowKit Go.Lib Go.Shelf
attribute [local go_sem] Oper.semAt_some normalQ

def AtErr (w : World) (e : Ending) (w' : World) : Prop := e = .returned (.tuple #[.agg #[.string ⟨#[]⟩, .string ⟨#[]⟩, .string ⟨#[]⟩, .string ⟨#[]⟩], .int .i64 120]) ∧ Below w.heap.size w w'
set_option maxRecDepth 100000 in
set_option maxHeartbeats 16000000 in
theorem dat_empty {r : Rat} (ho : Hist.Ok ⟨r, []⟩) (t : Int) (p : Option Addr) (c : Nat) (w : World) (hp : PAt w p []) (he : Env w) : Calls Tryz.prog 31 #[.agg #[.string (S r.num), .string (S (r.den : Int)), .slice p 0 c], .int .i64 t] w (AtErr w) := by
  have hB : Below w.heap.size w w := Below.refl _ _
  have MV := fun W (hp : PAt W p []) (H : Env W) => dvalid ho p 0 c rfl W hp H
  unfold BoolOk HV at MV
  simp only at MV
  have HP := Lib.hid hp
  clear ho hp
  unfold AtErr
  go_enter Tryz.func31, Tryz.ntmps31
  go_wp2_with fail
  have d0_o : w.heap.size ≤ w.heap.size + 1 := by have := hB.size; omega
  have d0_e : w.heap.size ≤ w.heap.size + 1 + 1 := by have := hB.size; omega
  have sB := hB.size
  refine world_cut (fun X => Below w.heap.size w X ∧ Row X w.heap.size (.cells #[.string (S r.num), .string (S (r.den : Int)), .slice p 0 c] 49) ∧ Row X (w.heap.size + 1) (.cells #[.string ⟨#[]⟩, .string ⟨#[]⟩, .string ⟨#[]⟩, .string ⟨#[]⟩] 29) ∧ Row X (w.heap.size + 1 + 1) (.cells #[.int .i64 0] 31)) ⟨BW, RWh, RWh, RWh⟩ ?_
  clear hB sB
  rintro V1 ⟨hB, rh, ro, re⟩
  have Fh : ∀ X, Row X w.heap.size (.cells #[.string (S r.num), .string (S (r.den : Int)), .slice p 0 c] 49) → (w.heap.size < X.heap.size ∧ X.cell? ⟨w.heap.size, 0, none⟩ = some (.string (S r.num)) ∧ X.cell? ⟨w.heap.size, 1, none⟩ = some (.string (S (r.den : Int))) ∧ X.cell? ⟨w.heap.size, 2, none⟩ = some (.slice p 0 c)) := fun X h => ⟨h.1, Row.cell_at h 0 rfl, Row.cell_at h 1 rfl, Row.cell_at h 2 rfl⟩
  obtain ⟨sh, ch0, ch1, ch2⟩ := Fh _ rh
  have Fo : ∀ X, Row X (w.heap.size + 1) (.cells #[.string ⟨#[]⟩, .string ⟨#[]⟩, .string ⟨#[]⟩, .string ⟨#[]⟩] 29) → (w.heap.size + 1 < X.heap.size ∧ X.cell? ⟨w.heap.size + 1, 0, none⟩ = some (.string ⟨#[]⟩) ∧ X.cell? ⟨w.heap.size + 1, 1, none⟩ = some (.string ⟨#[]⟩) ∧ X.cell? ⟨w.heap.size + 1, 2, none⟩ = some (.string ⟨#[]⟩) ∧ X.cell? ⟨w.heap.size + 1, 3, none⟩ = some (.string ⟨#[]⟩) ∧ X.frozen? ⟨w.heap.size + 1, 0, none⟩ = false ∧ X.frozen? ⟨w.heap.size + 1, 1, none⟩ = false ∧ X.frozen? ⟨w.heap.size + 1, 2, none⟩ = false ∧ X.frozen? ⟨w.heap.size + 1, 3, none⟩ = false) := fun X h => ⟨h.1, Row.cell_at h 0 rfl, Row.cell_at h 1 rfl, Row.cell_at h 2 rfl, Row.cell_at h 3 rfl, frozen_of_row _ _ 0 _ _ h.2, frozen_of_row _ _ 1 _ _ h.2, frozen_of_row _ _ 2 _ _ h.2, frozen_of_row _ _ 3 _ _ h.2⟩
  obtain ⟨so, co0, co1, co2, co3, fo0, fo1, fo2, fo3⟩ := Fo _ ro
  have Fe : ∀ X, Row X (w.heap.size + 1 + 1) (.cells #[.int .i64 0] 31) → (w.heap.size + 1 + 1 < X.heap.size ∧ X.cell? ⟨w.heap.size + 1 + 1, 0, none⟩ = some (.int .i64 0) ∧ X.frozen? ⟨w.heap.size + 1 + 1, 0, none⟩ = false) := fun X h => ⟨h.1, Row.cell_at h 0 rfl, frozen_of_row _ _ 0 _ _ h.2⟩
  obtain ⟨se, ce0, fe0⟩ := Fe _ re
  refine (MV _ (HP.out.below hB) (he.below hB)).mono ?_
  rintro e W2 ⟨rfl, h1⟩
  clear sh ch0 ch1 ch2
  clear so co0 co1 co2 co3 fo0 fo1 fo2 fo3
  clear se ce0 fe0
  replace hB := hB.trans (h1.mono hB.size)
  replace rh := Row.below rh h1
  replace ro := Row.below ro h1
  replace re := Row.below re h1
  clear h1
  obtain ⟨sh, ch0, ch1, ch2⟩ := Fh _ rh
  obtain ⟨so, co0, co1, co2, co3, fo0, fo1, fo2, fo3⟩ := Fo _ ro
  obtain ⟨se, ce0, fe0⟩ := Fe _ re
  go_wp2_with fail
  clear Fh
  have sB := hB.size
  refine post_cut (fun X => Below w.heap.size w X ∧ Row X (w.heap.size + 1) (.cells #[.string ⟨#[]⟩, .string ⟨#[]⟩, .string ⟨#[]⟩, .string ⟨#[]⟩] 29) ∧ Row X (w.heap.size + 1 + 1) (.cells #[.int .i64 120] 31)) ⟨BW, RWh, RWh⟩ ?_
  clear rh
  clear sh ch0 ch1 ch2
  clear ro
  clear so co0 co1 co2 co3 fo0 fo1 fo2 fo3
  clear re
  clear se ce0 fe0
  clear hB sB
  rintro V3 ⟨hB, ro, re⟩
  obtain ⟨so, co0, co1, co2, co3, fo0, fo1, fo2, fo3⟩ := Fo _ ro
  clear Fe
  have Fe : ∀ X, Row X (w.heap.size + 1 + 1) (.cells #[.int .i64 120] 31) → (w.heap.size + 1 + 1 < X.heap.size ∧ X.cell? ⟨w.heap.size + 1 + 1, 0, none⟩ = some (.int .i64 120) ∧ X.frozen? ⟨w.heap.size + 1 + 1, 0, none⟩ = false) := fun X h => ⟨h.1, Row.cell_at h 0 rfl, frozen_of_row _ _ 0 _ _ h.2⟩
  obtain ⟨se, ce0, fe0⟩ := Fe _ re
  refine bodyPost_ret (v := .tuple #[.agg #[.string ⟨#[]⟩, .string ⟨#[]⟩, .string ⟨#[]⟩, .string ⟨#[]⟩], .int .i64 120]) ?res rfl ⟨rfl, hB⟩
  case res => simp [results, Tryz.results31, go_sem, co0, co1, co2, co3, ce0]
def cCells (l : List (Nat × Nat)) : List Value := l.flatMap fun x => [.int .i64 (x.1 : Int), .int .i64 (x.2 : Int)]
theorem cCells_snoc (l : List (Nat × Nat)) (x : Nat × Nat) : cCells (l ++ [x]) = cCells l ++ [.int .i64 (x.1 : Int), .int .i64 (x.2 : Int)] := by unfold cCells; simp
theorem pairInfo : (Tryz.prog.info? 50).map (fun i => (i.zero, i.size, i.bytes)) = some (some (.agg #[.int .i64 0, .int .i64 0]), 2, 16) := by kernel_rfl
theorem own_kept {n₀ : Nat} {T : TypeId} {k n : Nat} {v : Value} {xs : List Value} {A B : World} {row : Option Nat} (h : A.ownsRow n₀ T k v n xs) (hg : A.grownBy B row) (hr : ∀ r, row = some r → ∃ o : Obj, A.heap[r]? = some o ∧ o.isCells = false) : B.ownsRow n₀ T k v n xs :=
  ⟨h.1, h.2.elim .inl fun ⟨g, cap, cur, e1, hb, h2, h3⟩ => .inr ⟨g, cap, cur, e1, hb, (hg.block g (Array.getElem?_eq_some_iff.1 h2).1 (fun e => by
    obtain ⟨o, ho, hc⟩ := hr g e.symm
    rw [h2] at ho; cases ho; cases hc)).trans h2, h3⟩⟩
theorem KpP.append {n₀ n₁ : Nat} {T : TypeId} {k n : Nat} {v : Value} {xs : List Value} {A B : World} (h : A.ownsRow n₀ T k v n xs) (hg : A.grownBy B v.ownBlock) (h1 : T ≠ 49) (h2 : T ≠ 53) (hn : n₁ ≤ n₀) (hs : n₁ ≤ A.heap.size) : KpP n₁ A B := by
  rcases h.2 with ⟨e1, _⟩ | ⟨g, cap, cur, e1, hb, e2, _⟩
  · rw [e1] at hg
    exact ⟨(Below.refl _ _).grown hg hs (fun k e => by simp [Value.ownBlock] at e), fun k _ _ hk _ => hg.block k (Array.getElem?_eq_some_iff.1 hk).1 (fun e => by simp [Value.ownBlock] at e)⟩
  · rw [e1] at hg
    exact KpP.grown (b := g) hg ⟨(Array.getElem?_eq_some_iff.1 e2).1, e2⟩ h1 h2 (by omega) hs
theorem keepsOthers_append {n₀ : Nat} {T : TypeId} {k n : Nat} {v : Value} {xs : List Value} {A B : World} (h : A.ownsRow n₀ T k v n xs) (hg : A.grownBy B v.ownBlock) : KeepsOthers A B := by
  refine KeepsOthers.of_grownBy hg fun j o hj ho => ?_
  rcases h.2 with ⟨e1, _⟩ | ⟨g, cap, cur, e1, hb, e2, _⟩
  · rw [e1] at hj; simp [Value.ownBlock] at hj
  · rw [e1] at hj
    simp [Value.ownBlock] at hj
    subst hj
    rw [e2] at ho; cases ho; rfl
theorem row_append {n₀ : Nat} {T T' : TypeId} {k n b : Nat} {v : Value} {xs : List Value} {vs : Array Value} {A B : World} (h : A.ownsRow n₀ T k v n xs) (hg : A.grownBy B v.ownBlock) (r : Row A b (.cells vs T')) (hne : T' ≠ T) : Row B b (.cells vs T') := by
  refine ⟨Nat.lt_of_lt_of_le r.1 hg.size, (hg.block b r.1 fun e => ?_).trans r.2⟩
  rcases h.2 with ⟨e1, _⟩ | ⟨g, cap, cur, e1, hb, e2, _⟩
  · rw [e1] at e; simp [Value.ownBlock] at e
  · rw [e1] at e
    simp [Value.ownBlock] at e
    subst e
    have := r.2.symm.trans e2
    simp at this
    exact hne this.2
theorem own_other {n₀ : Nat} {T T' : TypeId} {k n b : Nat} {v : Value} {xs : List Value} {vs : Array Value} {A : World} (h : A.ownsRow n₀ T k v n xs) (r : Row A b (.cells vs T')) (hne : T' ≠ T) (i : Nat) (u : Value) : (A.setCell ⟨b, i, none⟩ u).ownsRow n₀ T k v n xs :=
  ownsRow_setCell_other h (a := ⟨b, i, none⟩) (fun e => by
    rcases h.2 with ⟨e1, _⟩ | ⟨g, cap, cur, e1, hb, e2, _⟩
    · rw [e1] at e; simp [Value.ownBlock] at e
    · rw [e1] at e
      simp [Value.ownBlock] at e
      subst e
      have := r.2.symm.trans e2
      simp at this
      exact hne this.2) u
set_option maxRecDepth 100000 in
set_option maxHeartbeats 16000000 in
theorem dcons {r : Rat} {l : List Pt} (ho : Hist.Ok ⟨r, l⟩) (p : Option Addr) (m c : Nat) (hm : l.length = m) (w : World) (hp : PAt w p l) (he : Env w) :
    Calls Tryz.prog 40 #[.agg #[.string (S r.num), .string (S (r.den : Int)), .slice p m c]] w fun e w' => ∃ v, w'.ownsRow w.heap.size 50 2 v (cons ⟨r, l⟩).length (cCells (cons ⟨r, l⟩)) ∧ e = .returned v ∧ Below w.heap.size w w' := by
  have hB : Below w.heap.size w w := Below.refl _ _
  have MV := fun W (hp : PAt W p l) (H : Env W) => dvalid ho p m c hm W hp H
  have MP := fun W => dpairs r p m c W
  have HP := Lib.hid hp
  have HO := Lib.hid ho
  have HM := Lib.hid hm
  unfold BoolOk HV at MV
  simp only at MV
  obtain ⟨i0, hi, hz0, hz1, hz2⟩ := info_parts pairInfo
  clear ho hm hp
  refine calls_marks Tryz.func40 rfl fun Q0 HQ0 => ?_
  simp only [Tryz.ntmps40, List.size_toArray, List.length_cons, List.length_nil, Nat.reduceAdd, Nat.reduceSub, Array.replicate_succ, Array.replicate_zero, List.push_toArray, List.append_toArray, List.nil_append, List.cons_append]
  go_wp2_with fail
  have d0_o : w.heap.size ≤ w.heap.size + 1 := by have := hB.size; omega
  have sB := hB.size
  refine world_cut (fun X => Below w.heap.size w X ∧ Row X w.heap.size (.cells #[.string (S r.num), .string (S (r.den : Int)), .slice p m c] 49) ∧ Row X (w.heap.size + 1) (.cells #[.slice none 0 0] 66)) ⟨BW, RWh, RWh⟩ ?_
  clear hB sB
  rintro V1 ⟨hB, rh, ro⟩
  have Fh : ∀ X, Row X w.heap.size (.cells #[.string (S r.num), .string (S (r.den : Int)), .slice p m c] 49) → (w.heap.size < X.heap.size ∧ X.cell? ⟨w.heap.size, 0, none⟩ = some (.string (S r.num)) ∧ X.cell? ⟨w.heap.size, 1, none⟩ = some (.string (S (r.den : Int))) ∧ X.cell? ⟨w.heap.size, 2, none⟩ = some (.slice p m c)) := fun X h => ⟨h.1, Row.cell_at h 0 rfl, Row.cell_at h 1 rfl, Row.cell_at h 2 rfl⟩
  obtain ⟨sh, ch0, ch1, ch2⟩ := Fh _ rh
  have Fo : ∀ X, Row X (w.heap.size + 1) (.cells #[.slice none 0 0] 66) → (w.heap.size + 1 < X.heap.size ∧ X.cell? ⟨w.heap.size + 1, 0, none⟩ = some (.slice none 0 0) ∧ X.frozen? ⟨w.heap.size + 1, 0, none⟩ = false) := fun X h => ⟨h.1, Row.cell_at h 0 rfl, frozen_of_row _ _ 0 _ _ h.2⟩
  obtain ⟨so, co0, fo0⟩ := Fo _ ro
  refine (MV _ (HP.out.below hB) (he.below hB)).mono ?_
  rintro e W2 ⟨rfl, h1⟩
  clear sh ch0 ch1 ch2
  clear so co0 fo0
  replace hB := hB.trans (h1.mono hB.size)
  replace rh := Row.below rh h1
  replace ro := Row.below ro h1
  clear h1
  obtain ⟨sh, ch0, ch1, ch2⟩ := Fh _ rh
  obtain ⟨so, co0, fo0⟩ := Fo _ ro
  go_wp2_with fail
  refine (MP _).mono ?_
  rintro e W3 ⟨pb, rfl, hpb, rpb, h1⟩
  clear sh ch0 ch1 ch2
  clear so co0 fo0
  replace hB := hB.trans (h1.mono hB.size)
  replace rh := Row.below rh h1
  replace ro := Row.below ro h1
  clear h1
  obtain ⟨sh, ch0, ch1, ch2⟩ := Fh _ rh
  obtain ⟨so, co0, fo0⟩ := Fo _ ro
  have Fpb : ∀ X, Row X pb (.cells #[.string (S r.num), .string (S (r.den : Int)), .slice p m c] 49) → (pb < X.heap.size ∧ X.cell? ⟨pb, 0, none⟩ = some (.string (S r.num)) ∧ X.cell? ⟨pb, 1, none⟩ = some (.string (S (r.den : Int))) ∧ X.cell? ⟨pb, 2, none⟩ = some (.slice p m c)) := fun X h => ⟨h.1, Row.cell_at h 0 rfl, Row.cell_at h 1 rfl, Row.cell_at h 2 rfl⟩
  obtain ⟨spb, cpb0, cpb1, cpb2⟩ := Fpb _ rpb
  go_wp2_with fail
  have sB := hB.size
  refine (wpIn_wide (n := 3)).1 ?_
  refine wpIn_rangeFunc_ownH rfl (by omega) (gf := 142) (lb := #[.pointer (some ⟨pb, 0, none⟩)]) rfl trivial (enters_of Tryz.func142 (by kernel_rfl) rfl)
    (pairs_stops HO.out 2 (by omega) pb p m c HM.out w W3 he hB rpb (HP.out.below hB)) KpP.trans (KpP.book hB.size) (Below.refl _ _) (fun _ => rfl)
    (fun (pre : List (Nat × Nat)) W => ((∃ v, Row W (w.heap.size + 1) (.cells #[v] 66) ∧ W.ownsRow w.heap.size 50 2 v pre.length (cCells pre)) ∧ Below w.heap.size w W))
    (fun _ _ _ => False)
    (OwnFrom.and (fun s A B row hs hg hr => by obtain ⟨v, h1, h2⟩ := hs; exact ⟨v, ownFrom_row (β := Unit) _ _ _ _ () A B row h1 hg hr, own_kept h2 hg (fun r e => (hr r e).2)⟩) (ownFrom_below (Nat.le_refl _) (by omega)))
    (fun _ _ _ _ _ hs _ _ => hs)
    ⟨⟨_, ro, ⟨rfl, .inl ⟨rfl, rfl⟩⟩⟩, hB⟩
    (fun x a' W => ∃ Bx, w.heap.size + 1 < Bx ∧ Row W Bx (.cells #[.int .i64 (x.1 : Int), .int .i64 (x.2 : Int)] 50) ∧ a' = (⟨#[.agg #[.string (S r.num), .string (S (r.den : Int)), .slice p m c], .pointer (some ⟨w.heap.size, 0, none⟩), .pointer (some ⟨w.heap.size + 1, 0, none⟩), .pointer (some ⟨Bx, 0, none⟩), .bool true, .agg #[.string (S r.num), .string (S (r.den : Int)), .slice p m c], .bool true, .bool false, .agg #[.string (S r.num), .string (S (r.den : Int)), .slice p m c], .func (.func 142) #[] #[.pointer (some ⟨pb, 0, none⟩)], .agg #[.int .i64 (x.1 : Int), .int .i64 (x.2 : Int)], .bool true, undef, undef, undef, undef, undef, undef], []⟩ : Act))
    (fun x a' s A B row hs hg hr => by obtain ⟨Bx, h0, h1, h2⟩ := hs; exact ⟨Bx, h0, ownFrom_row (β := Unit) _ _ _ _ () A B row h1 hg hr, h2⟩)
    ?assign ?body ?done ?stop
  case assign =>
    have hob := ro.1
    rintro q pre x W K ⟨⟨v, ro2, hown⟩, hB2⟩ hK
    have hBx : w.heap.size + 1 < W.heap.size := ro2.1
    have hsW := hB2.size
    unfold encP
    gi_wp2
    refine hK _ _ ?kf ?kp ⟨⟨v, RWh, OW⟩, BW⟩ ⟨W.heap.size, hBx, RWh, rfl⟩
    case kf => repeat (first | exact KeepsFrom.refl _ _ | refine KeepsFrom.trans ?_ ((KeepsOthers.setCell _ _ _).from _) | refine KeepsFrom.trans ?_ ((KeepsOthers.alloc _ _).from _))
    case kp => exact KpP.of_below BW (by omega)
  case body =>
    rintro q pre x a' W hl2 ⟨rr, hrr⟩ ⟨⟨v, ro2, hown⟩, hB2⟩ ⟨Bx, hBx, rx, rfl⟩ hlt
    clear hB sB rh ro rpb sh ch0 ch1 ch2 so co0 fo0 spb cpb0 cpb1 cpb2
    have hsW := hB2.size
    have co := Row.cell_at ro2 0 rfl
    have cx0 := Row.cell_at rx 0 rfl
    have cx1 := Row.cell_at rx 1 rfl
    obtain ⟨A0, c0, rfl⟩ := own_slice hown
    gi_wp2_with (gi_at_builtin; refine wpListIn_append_own _ rfl (.tmp 13) (.tmp 15) 66 rfl w.heap.size 50 i0 (.agg #[.int .i64 0, .int .i64 0]) 2 16 Tryz.underlying66 hi hz0 hz1 hz2 rfl (by decide) (.slice A0 pre.length c0) pre.length (cCells pre) rfl (hown.alloc _) ⟨W.heap.size, 0, none⟩ 1 1 [.int .i64 (x.1 : Int), .int .i64 (x.2 : Int)] rfl rfl ?oe ?of ?og ?oh ?oi ?oj)
    case oe => intro j u hu; rw [Addr.add_lit]; exact Row.cell_at (row_new _ _) _ (by simpa using hu)
    case of => simp [Value.oneCell']
    case og => unfold maxLen; omega
    case oh => omega
    case oi => simp; omega
    intro v' W1 hown1 hg1 _
    obtain ⟨A1, c1, rfl⟩ := own_slice hown1
    have hk1 := KpP.append (n₁ := w.heap.size) (hown.alloc _) hg1 (by decide) (by decide) (Nat.le_refl _) (by simp; omega)
    have hk2 := keepsOthers_append (hown.alloc _) hg1
    have ro3 := row_append (hown.alloc _) hg1 (ro2.alloc _) (by decide)
    have co3 := Row.cell_at ro3 0 rfl
    have fo3 := frozen_of_row _ _ 0 _ _ ro3.2
    have so3 := ro3.1
    have hka := KpP.of_below (n₀ := w.heap.size) ((Below.refl W.heap.size W).alloc (Nat.le_refl _) (.cells #[.int .i64 (x.1 : Int), .int .i64 (x.2 : Int)] 50)) (by omega)
    have hk3 := KpP.set (n₀ := w.heap.size) (i := 0) ro3 (by decide) (by decide) (by omega) (.slice A1 (pre.length + 1) c1)
    have hkk := (hka.trans hk1).trans hk3
    gi_wp2
    refine ⟨?kf, hkk, ⟨⟨_, ro3.set_same rfl, ?own⟩, hB2.trans hkk.below⟩⟩
    case kf => exact ((((KeepsOthers.alloc _ _).trans hk2).trans (KeepsOthers.setCell _ _ _)).from _)
    case own => rw [cCells_snoc, List.length_append]; exact own_other hown1 ro3 (by decide) _ _
  case stop =>
    rintro D cd pre W hD _ h
    exact h.elim
  case done =>
    rintro DD ys W hD hys ⟨⟨v, ro2, hown⟩, hB2⟩ hKD
    subst hys
    have hVo := ro.1
    have hDl : w.heap.size + 1 < DD := Nat.lt_of_lt_of_le hVo hD
    clear hVo
    clear hB sB rh ro rpb sh ch0 ch1 ch2 so co0 fo0 spb cpb0 cpb1 cpb2
    have hsW := hB2.size
    have co := Row.cell_at ro2 0 rfl
    have fo := frozen_of_row _ _ 0 _ _ ro2.2
    obtain ⟨A0, c0, rfl⟩ := own_slice hown
    have rD : Row W DD (.deferred (some [])) := ⟨(Array.getElem?_eq_some_iff.1 hKD).1, hKD⟩
    go_wp2_with fail
    rw [HQ0.out]
    refine postM_cut (fun X => Below w.heap.size w X ∧ Row X (w.heap.size + 1) (.cells #[.slice A0 (cons ⟨r, l⟩).length c0] 66) ∧ Row X DD (.deferred (some [])) ∧ X.ownsRow w.heap.size 50 2 (.slice A0 (cons ⟨r, l⟩).length c0) (cons ⟨r, l⟩).length (cCells (cons ⟨r, l⟩))) ⟨BW, ro2.set_same rfl, RWh, own_other hown ro2 (by decide) _ _⟩ ?_
    rintro V ⟨hB, ro, rD, hown⟩
    replace ro := Row.putObj (D := DD) (o' := .deferred none) ro (by omega)
    have z0 := Row.cell_at ro 0 rfl
    refine marks_ret (v := .slice A0 (cons ⟨r, l⟩).length c0) rfl rD ?res ⟨_, ownsRow_putObj hown _ rD.2 rfl, rfl, below_putObj hB (by omega)⟩
    case res => simp [results, Tryz.results40, go_sem, z0]
end Go.Proofs.YtngohpgkceedeaaGreatDoor
