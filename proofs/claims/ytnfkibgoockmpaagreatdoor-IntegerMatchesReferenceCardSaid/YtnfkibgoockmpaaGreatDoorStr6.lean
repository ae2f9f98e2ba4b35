/-
  The exported functions, over strings: numbers of the machine.
-/
import Derived.Test.YtnfkibgoockmpaaGreatDoorStr5
namespace Go.Proofs.YtnfkibgoockmpaaGreatDoor
open Go Go.RowKit Go.Lib Go.Shelf

theorem S_zero : S 0 = ⟨#[48]⟩ := by
  unfold S
  rw [← is_zero]
set_option maxRecDepth 100000 in
set_option maxHeartbeats 1000000 in
theorem root_zero (a : ByteArray) (w : World) (ha : a.data.toList = itoa 0) (hsa : Str a) :
    Calls Tryz.prog 21 #[.string a] w (RootOk 0 w) := by
  have hbo := both_ok a ⟨#[48]⟩ 0 0 w ha is_zero fits_zero fits_zero hsa str_zero
  obtain ⟨i0, hi, hz0, hz1, hz2⟩ := info_parts intInfo
  have hmk : ∀ W : World, (Instr.makeSlice 48 (.int .i64 0) (.int .i64 0)).run Tryz.prog W = .ok (.slice (some ⟨W.heap.size, 0, none⟩) 0 0) (W.alloc (.cells #[] 3)) := fun W => make_half 0 0 rfl (by omega) i0 hi hz0 hz1 hz2 W
  go_enter Tryz.func21, Tryz.ntmps21
  go_wp2_with (first
    | (go_at_call 38; go_must (refine hbo.mono ?_; rintro e w1 ⟨u, v, rfl, ⟨A1, n1, k1, rfl, hu⟩, ⟨A2, n2, k2, rfl, hv⟩, hb1⟩; obtain rfl : n1 = 0 := hu.zero.2 rfl))
    | (at_builtin; obtain ⟨m0, m1⟩ := two_new2 w1 #[.bool false, .slice A1 0 k1] #[.bool false, .slice A2 n2 k2] 50; have hb2 := below2 w1 (.cells #[.bool false, .slice A1 0 k1] 50) (.cells #[.bool false, .slice A2 n2 k2] 50); have hB2 := hb1.trans (hb2.mono hb1.size); have hVs : ((w1.alloc (.cells #[.bool false, .slice A1 0 k1] 50)).alloc (.cells #[.bool false, .slice A2 n2 k2] 50)).heap.size = w1.heap.size + 1 + 1 := (by simp); have HVs := Lib.hid hVs; clear hVs; generalize ((w1.alloc (.cells #[.bool false, .slice A1 0 k1] 50)).alloc (.cells #[.bool false, .slice A2 n2 k2] 50)) = V at *; refine wpList_append_own _ rfl (.tmp 29) (.tmp 30) 48 rfl V.heap.size 3 i0 (.int .i64 0) 1 8 Tryz.underlying48 hi hz0 hz1 hz2 rfl (by decide) (.slice (some ⟨w1.heap.size + 1 + 1, 0, none⟩) 0 0) 0 _ rfl ((own_zeros V 0 _ (by omega) HVs.out).alloc _) ⟨w1.heap.size + 1 + 1 + 1, 0, none⟩ 1 1 [.int .i64 1] rfl rfl (cell_one_new' _ _ _ _ (by simp [HVs.out])) (by simp [Value.oneCell']) (by unfold maxLen; omega) (by omega) (by simp; omega) ?_; intro v' w3 hown3 hgrow3 _; obtain ⟨A3, c3, rfl⟩ := own_slice hown3; have hb3 : Below V.heap.size V w3 := (((Below.refl _ _).alloc (Nat.le_refl _) _).alloc (by simp) _).grown hgrow3 (by simp; omega) (by simp [Value.ownBlock, HVs.out]); have g0 := (hb3.block _ (Array.getElem?_eq_some_iff.1 m0).1).trans m0; obtain ⟨c1, c2, _, _⟩ := two_facts g0))
  go_loopw [7] (fun _ wr => wr = w3) (fun _ _ => 0)
  case atStart => rfl
  case round =>
    subst hrel
    go_wp2
    refine bodyPost_ret (v := .tuple #[.string (S 0), .int .i64 0]) ?res rfl ⟨0, rfl, ⟨by omega, by omega⟩, hB2.trans (hb3.mono hB2.size)⟩
    case res => simp [results, Tryz.f21, go_sem, S_zero]
/-- What the program's start has laid, and nothing has changed: Itoa's table, and Atoi's two errors. -/
structure Env (w : World) : Prop where
  tab : Tab w
  syn : ∃ te pe, w.cell? ⟨0, 0, none⟩ = some (.iface te pe)
  rng : ∃ te pe, w.cell? ⟨1, 0, none⟩ = some (.iface te pe)
theorem Env.below {w w' : World} (h : Env w) (hb : Below w.heap.size w w') : Env w' := by
  obtain ⟨h1, ⟨t1, p1, h2⟩, ⟨t2, p2, h3⟩⟩ := h
  exact ⟨h1.below hb, ⟨t1, p1, (hb.cell (World.block_lt_of_cell? _ _ h2)).trans h2⟩, ⟨t2, p2, (hb.cell (World.block_lt_of_cell? _ _ h3)).trans h3⟩⟩
def AtoiAny (w : World) (e : Ending) (w' : World) : Prop := ∃ n ev, e = .returned (.tuple #[.int .i64 n, ev]) ∧ Below w.heap.size w w'
def AtoiBad (w : World) (e : Ending) (w' : World) : Prop := ∃ n t p, e = .returned (.tuple #[.int .i64 n, .iface t p]) ∧ Below w.heap.size w w'
theorem bytes_below {w w' : World} {t : TypeId} (h : w' = w ∨ ∃ l, w' = Lib.bytesWorld w t l) : Below w.heap.size w w' := by
  rcases h with rfl | ⟨l, rfl⟩
  · exact Below.refl _ _
  · exact Lib.bytesWorld_below _ _ _
theorem atoi_ok (s : ByteArray) (z : Int) (w : World) (h : atoiAll s.data.toList = .ok z) (hs : s.size ≤ 140737488355328) :
    Calls Tryz.prog 57 #[.string s] w fun e w' => e = .returned (.tuple #[.int .i64 z, .nilIface]) ∧ Below w.heap.size w w' :=
  (Tryz.strconv_Atoi_ok s (by omega) z h w).mono fun _ _ ⟨he, hw⟩ => ⟨he, bytes_below hw⟩
theorem atoi_bad (s : ByteArray) (w : World) (he : Env w) (h : ∀ z, atoiAll s.data.toList ≠ .ok z) (hs : s.size ≤ 140737488355328) :
    Calls Tryz.prog 57 #[.string s] w (AtoiBad w) := by
  rcases hr : atoiAll s.data.toList with z | _ | _
  · exact absurd hr (h z)
  · obtain ⟨t, p, hc⟩ := he.syn
    exact (Any.strconv_Atoi_syntax Tryz.laysC172 s (by omega) hr _ w hc (.inr ⟨t, p, rfl⟩)).mono fun _ _ ⟨_, he, _, _, hb⟩ => ⟨_, _, _, he, hb⟩
  · obtain ⟨t, p, hc⟩ := he.rng
    exact (Tryz.strconv_Atoi_range s (by omega) hr _ w hc (.inr ⟨t, p, rfl⟩)).mono fun _ _ ⟨_, he, _, _, hb⟩ => ⟨_, _, _, he, hb⟩
theorem atoi_any (s : ByteArray) (w : World) (he : Env w) (hs : s.size ≤ 140737488355328) : Calls Tryz.prog 57 #[.string s] w (AtoiAny w) := by
  by_cases h : ∃ z, atoiAll s.data.toList = .ok z
  · obtain ⟨z, h⟩ := h
    exact (atoi_ok s z w h hs).mono fun _ _ ⟨he, hb⟩ => ⟨_, _, he, hb⟩
  · exact (atoi_bad s w he (fun z hz => h ⟨z, hz⟩) hs).mono fun _ _ ⟨_, _, _, he, hb⟩ => ⟨_, _, he, hb⟩
def IntOk (z : Int) (c : Int) (w : World) (e : Ending) (w' : World) : Prop := e = .returned (.tuple #[.int .i64 z, .int .i64 c]) ∧ Below w.heap.size w w'
theorem toInt_ok (s : ByteArray) (z : Int) (w : World) (hz : s.data.toList = itoa z) (hi : IsInt z) (hs : s.size ≤ 140737488355328) :
    Calls Tryz.prog 31 #[.string s] w (IntOk z 0 w) := by
  have hv : validB s.data.toList = true := by rw [hz]; exact validB_itoa z ((dig_int hi).fits (by omega))
  have ha : atoiAll s.data.toList = .ok z := by rw [hz, atoi_itoa, if_pos hi]
  have HA := Lib.hid ha
  have HV := Lib.hid hv
  clear ha hv hz hi
  go_enter Tryz.func31, Tryz.ntmps31
  go_wp2_with fail
  refine (atoi_ok s z _ HA.out hs).mono ?_
  rintro e w1 ⟨rfl, hb1⟩
  go_wp2_with fail
  refine (isValid_true s _ (by omega) HV.out).mono ?_
  rintro e w2 ⟨rfl, hb2⟩
  go_wp2
  go_ret2
  exact ⟨rfl, hb1.trans (hb2.mono hb1.size)⟩
theorem toInt_invalid (s : ByteArray) (w : World) (he : Env w) (hv : validB s.data.toList = false) (hs : s.size ≤ 140737488355328) :
    Calls Tryz.prog 31 #[.string s] w (IntOk 0 30 w) := by
  have HV := Lib.hid hv
  clear hv
  go_enter Tryz.func31, Tryz.ntmps31
  go_wp2_with fail
  refine (atoi_any s _ he hs).mono ?_
  rintro e w1 ⟨n, ev, rfl, hb1⟩
  go_wp2_with fail
  refine (isValid_false s _ (by omega) HV.out).mono ?_
  rintro e w2 ⟨rfl, hb2⟩
  go_wp2
  go_ret2
  exact ⟨rfl, hb1.trans (hb2.mono hb1.size)⟩
theorem toInt_great (s : ByteArray) (z : Int) (w : World) (he : Env w) (hz : s.data.toList = itoa z) (hf : Fits z) (hi : ¬ IsInt z) (hs : s.size ≤ 140737488355328) :
    Calls Tryz.prog 31 #[.string s] w (IntOk 0 30 w) := by
  have hv : validB s.data.toList = true := by rw [hz]; exact validB_itoa z hf
  have ha : ∀ x, atoiAll s.data.toList ≠ .ok x := by intro x; rw [hz, atoi_itoa, if_neg hi]; intro e; cases e
  have HA := Lib.hid ha
  have HV := Lib.hid hv
  clear ha hv hz hi hf
  go_enter Tryz.func31, Tryz.ntmps31
  go_wp2_with fail
  refine (atoi_bad s _ he HA.out hs).mono ?_
  rintro e w1 ⟨n, t, p, rfl, hb1⟩
  go_wp2_with fail
  refine (isValid_true s _ (by omega) HV.out).mono ?_
  rintro e w2 ⟨rfl, hb2⟩
  go_wp2
  go_ret2
  exact ⟨rfl, hb1.trans (hb2.mono hb1.size)⟩
end Go.Proofs.YtnfkibgoockmpaaGreatDoor
