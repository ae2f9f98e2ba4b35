/-
  slices.Clone and slices.Insert at points: whatever room there is.
-/
import Derived.Deep.RegionLaw
import Derived.Laws.CopyOwn
import Derived.Shelf.Spec.SlicesInsertGrow
import Derived.Test.YtngohpgkceedeaaGreatDoorWDValid
set_option linter.unusedSimpArgs false
set_option linter.unusedVariables false
namespace Go.Proofs.YtngohpgkceedeaaGreatDoor
open Go Go.RowKit Go.Lib Go.Shelf

theorem pointInfo : (Tryz.prog.info? 53).map (fun i => (i.zero, i.size, i.bytes)) = some (some (.agg #[.int .i64 0, .string ⟨#[]⟩, .string ⟨#[]⟩, .string ⟨#[]⟩, .string ⟨#[]⟩]), 5, 72) := by kernel_rfl
/-- 'copy(d, s)' into a row, elements of k cells. -/
theorem run_copy_rowK {P : Program} (w : World) (dT sT ty elem : TypeId) (k m g o dLen dCap : Nat) (a : Addr) (sLen sCap : Nat) (cur : Array Value) (t : TypeId) (cs : List Value)
    (hu : P.underlying dT = some (.slice elem)) (hs : (P.info? elem).map (·.size) = some k)
    (hg : w.heap[g]? = some (.cells cur t (0, 0))) (hm : m = Nat.min sLen dLen) (hn : cs.length = m * k)
    (hsrc : ∀ j v, cs[j]? = some v → w.cell? (a.add j) = some v) (hfit : o + cs.length ≤ cur.size) (h1 : ∀ v ∈ cs, v.oneCell' = true) :
    (Builtin.copy_ #[dT, sT] ty #[.slice (some ⟨g, o, none⟩) dLen dCap, .slice (some a) sLen sCap]).run P w =
      .ok (goInt m) (w.setRow g (cur.toList.take o ++ cs ++ cur.toList.drop (o + cs.length)).toArray) := by
  have hl := run_loadCells_list (P := P) w a cs hsrc
  have hst := run_storeCells_at P g o t cs 0 cur w hg (by simpa using hfit) h1
  cases hq : P.info? elem with
  | none => simp [hq] at hs
  | some i =>
    have hi : i.size = k := by simpa [hq] using hs
    simp [Builtin.copy_, run_underlying hu, Builtin.lenOf, Builtin.firstCells, sizeOf, typeInfo, hq, hi, ← hm, ← hn, hl, hst]
theorem slice_eql_nil (w : World) (a : Option Addr) (n c n' c' : Nat) : (binOp .eql 47 (.slice a n c) (.slice none n' c')).run Tryz.prog w = .ok (.bool a.isNone) w := Lib.run_eql_slice_nil w _ _ a n c n' c' Tryz.underlying47
set_option maxHeartbeats 2000000 in
set_option maxRecDepth 100000 in
theorem dclone_some (g off n c : Nat) (news : List Value) (w : World) (hl : news.length = n * 5) (hn : n ≤ 1000) (hc : ∀ j u, news[j]? = some u → w.cell? ⟨g, off + j, none⟩ = some u) (h1 : ∀ u ∈ news, u.oneCell' = true) :
    Calls Tryz.prog 92 #[.slice (some ⟨g, off, none⟩) n c] w fun e w' => ∃ v', e = .returned v' ∧ w'.ownsRow w.heap.size 53 5 v' n news ∧ Below w.heap.size w w' := by
  obtain ⟨i0, hi, hz0, hz1, hz2⟩ := info_parts pointInfo
  have q22 := slice_eql_nil
  have A := Lib.hid hc
  clear hc
  go_enter Tryz.func92, Tryz.ntmps92
  go_wp2_with (at_builtin; refine wpList_append_own _ rfl _ _ 47 rfl w.heap.size 53 i0 (.agg #[.int .i64 0, .string ⟨#[]⟩, .string ⟨#[]⟩, .string ⟨#[]⟩, .string ⟨#[]⟩]) 5 72 Tryz.underlying47 hi hz0 hz1 hz2 rfl (by decide) _ _ _ rfl (World.ownsRow_made w #[] 0 (Nat.le_refl _) (Nat.zero_le _) (by simp)) ⟨g, off, none⟩ n c news rfl ?qc1 ?qc2 ?qc3 ?qc4 ?qc5 ?qc6 ?_)
  case qc1 => exact hl
  case qc2 =>
    intro j u hj
    rw [Addr.add_lit]
    exact Lib.cell?_alloc_some _ (A.out j u hj)
  case qc3 => exact h1
  case qc4 => unfold maxLen; omega
  case qc5 => omega
  case qc6 => simp
  intro v' w1 hown hgrow hnil
  go_wp2
  go_ret
  exact ⟨v', rfl, by simpa using hown, ((Below.refl _ w).alloc (Nat.le_refl _) _).grown hgrow (by simp) (by intro k hk; simp [Value.ownBlock] at hk; omega)⟩
set_option maxHeartbeats 1000000 in
theorem dclone_nil (n c : Nat) (w : World) : Calls Tryz.prog 92 #[.slice none n c] w fun e w' => e = .returned (.slice none 0 0) ∧ w' = w := by
  have q22 := slice_eql_nil
  go_enter Tryz.func92, Tryz.ntmps92
  go_wp2
  go_ret
  exact ⟨rfl, rfl⟩
theorem PAt.take {W : World} {p : Option Addr} {l : List Pt} (h : PAt W p l) (k : Nat) : PAt W p (l.take k) := by
  rcases h with ⟨rfl, h⟩ | ⟨g, cur, rfl, hr, hx⟩
  · exact .inl ⟨by simp, h⟩
  · refine .inr ⟨g, cur, rfl, hr, ?_⟩
    rw [pCells_take, ← hx, List.take_take, List.length_take]
    rcases Nat.le_total k l.length with h | h
    · rw [Nat.min_eq_left h, Nat.min_eq_left (by omega)]
    · rw [Nat.min_eq_right h, Nat.min_eq_right (by omega)]
/-- slices.Clone at points. -/
theorem dclone {l : List Pt} (p : Option Addr) (n c : Nat) (hn : l.length = n) (hn1 : n ≤ 1000) (w : World) (hp : PAt w p l) :
    Calls Tryz.prog 92 #[.slice p n c] w fun e w' => ∃ v', e = .returned v' ∧ w'.ownsRow w.heap.size 53 5 v' n (pCells l) ∧ Below w.heap.size w w' := by
  rcases p with _ | ⟨g, off, sp⟩
  · have hl : l = [] := by
      rcases hp with ⟨h, _⟩ | ⟨g, cur, h, _⟩
      · exact h
      · cases h
    subst hl
    subst hn
    exact (dclone_nil _ _ w).mono fun e w' ⟨h1, h2⟩ => ⟨_, h1, World.ownsRow_nil _ _ _ _, h2 ▸ Below.refl _ _⟩
  · rcases hp with ⟨h, h2⟩ | ⟨g', cur, h, hr, hx⟩
    · subst h
      subst hn
      rcases h2 with h2 | ⟨g', h2⟩
      · cases h2
      · cases h2
        exact (dclone_some g 0 0 c [] w rfl (by omega) (by simp) (by simp)).mono fun e w' h => h
    · cases h
      subst hn
      exact dclone_some g 0 _ c (pCells l) w (pCells_length l) hn1 (fun j u hj => by rw [Nat.zero_add]; exact Row.cell_take hr hx hj) (pCells_one l)
theorem ins_abs {α : Type} (A P B T vs : List α) (hP : P.length = 5) (hv : vs.length = 5) :
    ((A ++ P ++ B ++ T).take A.length ++ vs ++ (A ++ P ++ B ++ T).drop (A.length + vs.length)).take (A.length + B.length + 5) = A ++ vs ++ B := by
  have e1 : (A ++ P ++ B ++ T).take A.length = A := by rw [List.append_assoc, List.append_assoc, List.take_left]
  have e2 : (A ++ P ++ B ++ T).drop (A.length + vs.length) = B ++ T := by
    rw [hv, ← hP, ← List.length_append, List.append_assoc (A ++ P), List.drop_left]
  rw [e1, e2, ← List.append_assoc]
  have : A.length + B.length + 5 = (A ++ vs ++ B).length := by simp [hv]; omega
  rw [this, List.take_left]
theorem ins_list {α : Type} {cur cs vs : List α} {a b : Nat} (hx : cur.take b = cs) (hb : b + 5 ≤ cur.length) (ha : a ≤ b) (hv : vs.length = 5) (T : List α) :
    (((cur.take (a + 5) ++ cs.drop a ++ T).take a ++ vs ++ (cur.take (a + 5) ++ cs.drop a ++ T).drop (a + vs.length)).take (b + 5)) = cs.take a ++ vs ++ cs.drop a := by
  have hA : (cs.take a).length = a := by rw [← hx]; simp; omega
  have hB : a + (cs.drop a).length = b := by rw [← hx]; simp; omega
  have hP : ((cur.drop a).take 5).length = 5 := by simp; omega
  have e : cur.take (a + 5) = cs.take a ++ (cur.drop a).take 5 := by rw [List.take_add, ← hx, List.take_take, Nat.min_eq_left ha]
  have := ins_abs (cs.take a) ((cur.drop a).take 5) (cs.drop a) T vs hP hv
  rw [hA] at this
  rw [show a + (cs.drop a).length + 5 = b + 5 by omega] at this
  rw [e]
  exact this
theorem ins_size {α : Type} {cur cs vs T : List α} {a b : Nat} (hx : cur.take b = cs) (hb : b + 5 ≤ cur.length) (ha : a ≤ b) (hv : vs.length = 5) (hT : T = cur.drop (a + 5 + (cs.drop a).length)) :
    (cur.take (a + 5) ++ cs.drop a ++ T).length = cur.length ∧ ((cur.take (a + 5) ++ cs.drop a ++ T).take a ++ vs ++ (cur.take (a + 5) ++ cs.drop a ++ T).drop (a + vs.length)).length = cur.length := by
  have hB : (cs.drop a).length = b - a := by rw [← hx]; simp; omega
  have h1 : (cur.take (a + 5) ++ cs.drop a ++ T).length = cur.length := by
    have hc : cs.length = b := by rw [← hx]; simp; omega
    subst hT
    simp only [List.length_append, List.length_drop, List.length_take, hc]; omega
  refine ⟨h1, ?_⟩
  rw [List.length_append, List.length_append, List.length_take, List.length_drop, h1, hv]
  omega
theorem insOverlaps (w : World) (g vb o m vc lb cb kg : Nat) (cur vs : Array Value) (hg : Row w g (.cells cur 53)) (hk : cur.size ≠ 0) (hv : Row w vb (.cells vs 53)) (hne : vb ≠ g) :
    (callFunc 149 #[.slice (some ⟨vb, 0, none⟩) m vc, .slice (some ⟨g, o, none⟩) lb cb]).run Tryz.prog w = .ok (.value (.bool false)) w := by
  have h1 := hg.2
  have h2 := hv.2
  have hsz : ∀ w, (Go.sizeOf 53).run Tryz.prog w = .ok 5 w := fun w => by
    obtain ⟨i0, hi, hz0, hz1, hz2⟩ := info_parts pointInfo
    simp [Go.sizeOf, typeInfo, hi, hz1]
  rw [run_callFunc_extern Tryz.func149 (by kernel_rfl) (by kernel_rfl) (by kernel_rfl) (e := Extern.SlicesOverlaps.overlaps #[47, 47] #[4]) (by kernel_rfl),
    Lib.run_overlaps_apart w 47 4 53 Tryz.underlying47 5 hsz ⟨vb, 0, none⟩ ⟨g, o, none⟩ m vc lb cb hne 53 53 vs.size cur.size (by simp [World.shape?, h2]) (by simp [World.shape?, h1]) hk (by simp [World.frozen?, h2]) (by simp [World.frozen?, h2])]
  rfl
set_option maxHeartbeats 4000000 in
set_option maxRecDepth 100000 in
theorem dinsert_shift (g n c i vb : Nat) (cur : Array Value) (cs vs : List Value) (w : World) (hi : i < n) (hroom : n + 1 ≤ c) (hc : c ≤ 9223372036854775807) (hg : Row w g (.cells cur 53)) (hsz : cur.size = c * 5)
    (hx : cur.toList.take (n * 5) = cs) (hv : Row w vb (.cells vs.toArray 53)) (hvl : vs.length = 5) (hne : vb ≠ g) (h1c : ∀ v ∈ cs, v.oneCell' = true) (h1v : ∀ v ∈ vs, v.oneCell' = true) (R1 R2 : List Value)
    (hR1 : R1 = cur.toList.take (i * 5 + 5) ++ cs.drop (i * 5) ++ cur.toList.drop (i * 5 + 5 + (cs.drop (i * 5)).length)) (hR2 : R2 = R1.take (i * 5) ++ vs ++ R1.drop (i * 5 + vs.length)) :
    Calls Tryz.prog 94 #[.slice (some ⟨g, 0, none⟩) n c, .int .i64 i, .slice (some ⟨vb, 0, none⟩) 1 1] w fun e w' =>
      e = .returned (.slice (some ⟨g, 0, none⟩) (n + 1) c) ∧ w' = (w.drew.setRow g R1.toArray).setRow g R2.toArray := by
  have hcl : cs.length = n * 5 := by rw [← hx]; simp; omega
  have hdl : (cs.drop (i * 5)).length = (n - i) * 5 := by rw [List.length_drop, hcl]; omega
  obtain ⟨hl1, hl2⟩ := ins_size (vs := vs) (b := n * 5) hx (by simp; omega) (show i * 5 ≤ n * 5 by omega) hvl rfl
  rw [← hR1] at hl1 hl2
  rw [← hR2] at hl2
  have hps : (Tryz.prog.info? 53).map (·.size) = some 5 := by
    obtain ⟨i0, hi0, h0, h1, h2⟩ := info_parts pointInfo
    rw [hi0]; simp [h1]
  have hcp1 : ∀ ty dc sc, (Builtin.copy_ #[47, 47] ty #[.slice (some ⟨g, (i + 1) * 5, none⟩) (n - i) dc, .slice (some ⟨g, i * 5, none⟩) (n + 1 - i) sc]).run Tryz.prog w.drew = .ok (goInt ((n - i : Nat) : Int)) (w.drew.setRow g R1.toArray) := fun ty dc sc => by
    rw [run_copy_rowK w.drew _ _ ty 53 5 (n - i) g ((i + 1) * 5) (n - i) dc ⟨g, i * 5, none⟩ (n + 1 - i) sc cur 53 (cs.drop (i * 5)) Tryz.underlying47 hps hg.2 (by simp only [Nat.min_def]; split <;> omega) hdl
      (fun j v hj => by rw [Addr.add_lit]; exact Row.cell_take (W := w.drew) hg hx (by rwa [List.getElem?_drop] at hj)) (by rw [hdl, hsz]; omega) (fun v hv => h1c v (List.mem_of_mem_drop hv))]
    rw [hR1, show (i + 1) * 5 = i * 5 + 5 by omega]
  have hg1 : (w.drew.setRow g R1.toArray).heap[g]? = some (.cells R1.toArray 53 (0, 0)) := setRow_heap w.drew g cur _ _ _ hg.2
  have hcp2 : ∀ (W : World), W.heap = (w.drew.setRow g R1.toArray).heap → ∀ ty dc, (Builtin.copy_ #[47, 47] ty #[.slice (some ⟨g, i * 5, none⟩) (n + 1 - i) dc, .slice (some ⟨vb, 0, none⟩) 1 1]).run Tryz.prog W = .ok (goInt ((1 : Nat) : Int)) (W.setRow g R2.toArray) := fun W hW ty dc => by
    rw [run_copy_rowK W _ _ ty 53 5 1 g (i * 5) (n + 1 - i) dc ⟨vb, 0, none⟩ 1 1 R1.toArray 53 vs Tryz.underlying47 hps (by rw [hW]; exact hg1) (by simp only [Nat.min_def]; split <;> omega) (by omega)
      (fun j v hj => by
        rw [Addr.add_lit, Nat.zero_add]
        have : W.heap[vb]? = some (.cells vs.toArray 53 (0, 0)) := by rw [hW, setRow_other _ _ _ _ hne]; exact hv.2
        simp [World.cell?, this, hj]) (by simp [hl1]; omega) h1v, List.toList_toArray, ← hR2]
  have hov : ∀ lb cb, (callFunc 149 #[.slice (some ⟨vb, 0, none⟩) 1 1, .slice (some ⟨g, (i + 1) * 5, none⟩) lb cb]).run Tryz.prog w = .ok (.value (.bool false)) w := fun lb cb => insOverlaps w g vb _ 1 1 lb cb 0 cur vs.toArray hg (by omega) hv hne
  have hz2 : ¬ ((i : Int) = (n : Int)) := by omega
  have hz3 : ¬ ((c : Int) < (n : Int) + 1) := by omega
  have hw1 : IntKind.i64.wrap ((i : Int) + 1) = (i : Int) + 1 := by rw [IntKind.wrap_i64]; omega
  have hw2 : IntKind.i64.wrap ((n : Int) + 1) = (n : Int) + 1 := by rw [IntKind.wrap_i64]; omega
  have htn : ((i : Int) + 1).toNat = i + 1 := by omega
  have htn2 : ((n : Int) + 1).toNat = n + 1 := by omega
  have hb2 : ¬ (c = i + 1) := by omega
  have hb1 : (0 : Int) ≤ (i : Int) + 1 := by omega
  have hin : i ≤ n := by omega
  have hb3 : (i : Int) ≤ (n : Int) + 1 := by omega
  have hb4 : ¬ (c = i) := by omega
  have mixed : Tryz.prog.follows .mixedOrders = true := by kernel_rfl
  have H2 := Lib.hid hcp2
  clear hcp2 hR1 hR2 hl1 hl2 hdl hcl hx hsz hg hv hg1 h1c h1v
  go_enter Tryz.func94, Tryz.ntmps94
  go_wp2_with (simp only [hov])
  go_region_law_o (refine step_copy_runI rfl _ _ 47 47 rfl _ _ (by simp [Act.eval, Act.put]) (by simp [Act.eval, Act.put]) (hcp1 _ _ _) ?_)
  have hcp2 := fun ty dc => H2.out (w.drew.setRow g R1.toArray) rfl ty dc
  go_wp2
  go_ret
  exact ⟨rfl, rfl⟩
theorem news_at {W : World} {b : Nat} {xs : List Value} {t : TypeId} (h : Row W b (.cells xs.toArray t)) : ∀ j u, xs[j]? = some u → W.cell? ((⟨b, 0, none⟩ : Addr).add j) = some u := fun j u hu => by
  rw [Addr.add_lit, Nat.zero_add]
  exact Row.cell_at h j (by simpa using hu)
set_option maxHeartbeats 4000000 in
set_option maxRecDepth 100000 in
theorem dinsert_nil (base vb : Nat) (cs vs : List Value) (w : World) (hb : base ≤ w.heap.size) (ho : w.ownsRow base 53 5 (.slice none 0 0) 0 cs)
    (hv : Row w vb (.cells vs.toArray 53)) (hvl : vs.length = 5) (h1v : ∀ v ∈ vs, v.oneCell' = true) :
    Calls Tryz.prog 94 #[.slice none 0 0, .int .i64 0, .slice (some ⟨vb, 0, none⟩) 1 1] w fun e w' =>
      ∃ s, e = .returned s ∧ w'.ownsRow base 53 5 s (0 + 1) (cs ++ vs) ∧ w.grownBy w' none := by
  obtain ⟨i0, hi, hz0, hz1, hz2⟩ := info_parts pointInfo
  have HV := Lib.hid (news_at hv)
  have HO := Lib.hid ho
  clear hv ho
  go_enter Tryz.func94, Tryz.ntmps94
  go_wp2_with (at_builtin; refine wpList_append_own _ rfl _ _ 47 rfl base 53 i0 (.agg #[.int .i64 0, .string ⟨#[]⟩, .string ⟨#[]⟩, .string ⟨#[]⟩, .string ⟨#[]⟩]) 5 72 Tryz.underlying47 hi hz0 hz1 hz2 rfl (by decide) _ 0 cs rfl HO.out ⟨vb, 0, none⟩ 1 1 vs rfl (by omega) HV.out h1v (by unfold maxLen; omega) (by omega) hb ?_; intro v' w1 hown hgrow hnil; have hq := Lib.hid (And.intro hown hgrow); clear hown hgrow hnil)
  go_ret
  exact ⟨_, rfl, hq.out⟩
set_option maxHeartbeats 4000000 in
set_option maxRecDepth 100000 in
theorem dinsert_full (g base n vb : Nat) (cs vs : List Value) (hn : n ≤ 1000) (w : World) (hb : base ≤ w.heap.size) (ho : w.ownsRow base 53 5 (.slice (some ⟨g, 0, none⟩) n n) n cs)
    (hv : Row w vb (.cells vs.toArray 53)) (hvl : vs.length = 5) (h1v : ∀ v ∈ vs, v.oneCell' = true) :
    Calls Tryz.prog 94 #[.slice (some ⟨g, 0, none⟩) n n, .int .i64 n, .slice (some ⟨vb, 0, none⟩) 1 1] w fun e w' =>
      ∃ s, e = .returned s ∧ w'.ownsRow base 53 5 s (n + 1) (cs ++ vs) ∧ w.grownBy w' (some g) := by
  obtain ⟨i0, hi, hz0, hz1, hz2⟩ := info_parts pointInfo
  have HV := Lib.hid (news_at hv)
  have HO := Lib.hid ho
  clear hv ho
  have h00 : (0 : Int) ≤ (n : Int) := by omega
  go_enter Tryz.func94, Tryz.ntmps94
  go_wp2_with (at_builtin; refine wpList_append_own _ rfl _ _ 47 rfl base 53 i0 (.agg #[.int .i64 0, .string ⟨#[]⟩, .string ⟨#[]⟩, .string ⟨#[]⟩, .string ⟨#[]⟩]) 5 72 Tryz.underlying47 hi hz0 hz1 hz2 rfl (by decide) _ n cs rfl HO.out ⟨vb, 0, none⟩ 1 1 vs rfl (by omega) HV.out h1v (by unfold maxLen; omega) (by omega) hb ?_; intro v' w1 hown hgrow hnil; have hq := Lib.hid (And.intro hown hgrow); clear hown hgrow hnil)
  go_ret
  exact ⟨_, rfl, hq.out⟩
set_option maxHeartbeats 4000000 in
set_option maxRecDepth 100000 in
theorem dinsert_room (g base n c vb : Nat) (cs vs : List Value) (hn : n ≤ 1000) (hnc : n < c) (w : World) (hb : base ≤ w.heap.size) (ho : w.ownsRow base 53 5 (.slice (some ⟨g, 0, none⟩) n c) n cs)
    (hv : Row w vb (.cells vs.toArray 53)) (hvl : vs.length = 5) (h1v : ∀ v ∈ vs, v.oneCell' = true) :
    Calls Tryz.prog 94 #[.slice (some ⟨g, 0, none⟩) n c, .int .i64 n, .slice (some ⟨vb, 0, none⟩) 1 1] w fun e w' =>
      ∃ s, e = .returned s ∧ w'.ownsRow base 53 5 s (n + 1) (cs ++ vs) ∧ w.grownBy w' (some g) := by
  obtain ⟨i0, hi, hz0, hz1, hz2⟩ := info_parts pointInfo
  have HV := Lib.hid (news_at hv)
  have HO := Lib.hid ho
  clear hv ho
  have h00 : (0 : Int) ≤ (n : Int) := by omega
  have hcn : ¬ c = n := by omega
  go_enter Tryz.func94, Tryz.ntmps94
  go_wp2_with (at_builtin; refine wpList_append_own _ rfl _ _ 47 rfl base 53 i0 (.agg #[.int .i64 0, .string ⟨#[]⟩, .string ⟨#[]⟩, .string ⟨#[]⟩, .string ⟨#[]⟩]) 5 72 Tryz.underlying47 hi hz0 hz1 hz2 rfl (by decide) _ n cs rfl HO.out ⟨vb, 0, none⟩ 1 1 vs rfl (by omega) HV.out h1v (by unfold maxLen; omega) (by omega) hb ?_; intro v' w1 hown hgrow hnil; have hq := Lib.hid (And.intro hown hgrow); clear hown hgrow hnil)
  go_ret
  exact ⟨_, rfl, hq.out⟩
theorem grow_abs {α : Type} (A vs B T1 T : List α) : ((A ++ vs ++ T1).take (A.length + vs.length) ++ B ++ T).take (A.length + vs.length + B.length) = A ++ vs ++ B := by
  rw [← List.length_append, List.take_left, ← List.length_append, List.take_left]
set_option maxHeartbeats 4000000 in
set_option maxRecDepth 100000 in
theorem dinsert_grow (g n i vb : Nat) (cur : Array Value) (cs vs : List Value) (w : World) (hi : i < n) (hn : n ≤ 1000) (hg : Row w g (.cells cur 53))
    (hx : cur.toList.take (n * 5) = cs) (hcl : cs.length = n * 5) (hv : Row w vb (.cells vs.toArray 53)) (hvl : vs.length = 5) (h1c : ∀ v ∈ cs, v.oneCell' = true) (h1v : ∀ v ∈ vs, v.oneCell' = true) :
    Calls Tryz.prog 94 #[.slice (some ⟨g, 0, none⟩) n n, .int .i64 i, .slice (some ⟨vb, 0, none⟩) 1 1] w fun e w' =>
      ∃ s, e = .returned s ∧ w'.ownsRow w.heap.size 53 5 s (n + 1) (cs.take (i * 5) ++ vs ++ cs.drop (i * 5)) ∧ Below w.heap.size w w' := by
  obtain ⟨i0, hi0, hz0, hzs, hzb⟩ := info_parts pointInfo
  have hps : (Tryz.prog.info? 53).map (·.size) = some 5 := by rw [hi0]; simp [hzs]
  have hik : i + (n + 1 - i) = n + 1 := by omega
  have hAl : (cs.take (i * 5)).length = i * 5 := by rw [List.length_take, hcl]; omega
  have hBl : (cs.drop (i * 5)).length = (n - i) * 5 := by rw [List.length_drop, hcl]; omega
  have hold : (Builtin.firstCells i0.size i (.slice (some ⟨g, 0, none⟩) i n)).run Tryz.prog w.drew = .ok (cs.take (i * 5)).toArray w.drew := by
    rw [hzs]
    exact run_firstCells_some w.drew 5 i ⟨g, 0, none⟩ i n (cs.take (i * 5)) hAl (fun j v hj => by
      rw [Addr.add_lit, Nat.zero_add]
      rw [List.getElem?_take] at hj
      split at hj
      · exact Row.cell_take (W := w.drew) hg hx hj
      · cases hj)
  obtain ⟨G, hG⟩ : ∃ G, G = grownCap w (n + 1) n 53 := ⟨_, rfl⟩
  have hGn : n + 1 ≤ G := by rw [hG]; exact grownCap_ge w _ _ _
  have hGm : G ≤ maxLen := by rw [hG]; exact grownCap_le_maxLen w (n + 1) n 53 (by unfold maxLen; omega)
  obtain ⟨ROW, hROW⟩ : ∃ ROW : Array Value, ROW = (cs.take (i * 5)).toArray ++ Builtin.zeroCells (Value.agg #[.int .i64 0, .string ⟨#[]⟩, .string ⟨#[]⟩, .string ⟨#[]⟩, .string ⟨#[]⟩]).cells (n + 1 - i) ++ Builtin.zeroCells (Value.agg #[.int .i64 0, .string ⟨#[]⟩, .string ⟨#[]⟩, .string ⟨#[]⟩, .string ⟨#[]⟩]).cells (G - (n + 1)) := ⟨_, rfl⟩
  have hrz : ∀ ty, (Builtin.append_ #[47, 3] ty #[.slice (some ⟨g, 0, none⟩) i n, .int .i64 ((n : Int) + 1 - (i : Int))]).run Tryz.prog w = .ok (.slice (some ⟨w.heap.size, 0, none⟩) (n + 1) G) (w.drew.alloc (.cells ROW 53)) := fun ty => by
    have h := Lib.run_append_grow_zeros w 47 3 ty 53 i0 _ .i64 .i64 Tryz.underlying47 Tryz.underlying3 hi0 hz0 (some ⟨g, 0, none⟩) i n (cs.take (i * 5)) hold (n + 1 - i) (by omega) (by omega) (by omega) (by omega) (by rw [hzb]; omega) (by rw [hzb, hik]; exact growslice_fits (by omega) (by omega))
    rw [hik, ← hG, ← hROW] at h
    rw [show (n : Int) + 1 - (i : Int) = ((n + 1 - i : Nat) : Int) by omega]
    exact h
  have hRs : ROW.size = G * 5 := by
    rw [hROW]
    simp [Builtin.zeroCells, Value.cells, hAl]
    omega
  obtain ⟨R1, hR1⟩ : ∃ R1 : List Value, R1 = ROW.toList.take (i * 5) ++ vs ++ ROW.toList.drop (i * 5 + vs.length) := ⟨_, rfl⟩
  obtain ⟨R2, hR2⟩ : ∃ R2 : List Value, R2 = R1.take ((i + 1) * 5) ++ cs.drop (i * 5) ++ R1.drop ((i + 1) * 5 + (cs.drop (i * 5)).length) := ⟨_, rfl⟩
  have hRt : ROW.toList.take (i * 5) = cs.take (i * 5) := by
    rw [hROW]
    simp only [Array.toList_append, List.append_assoc, List.toList_toArray]
    rw [List.take_append_of_le_length (by omega), List.take_of_length_le (by omega)]
  have hl1 : R1.length = G * 5 := by
    rw [hR1]
    simp only [List.length_append, List.length_take, List.length_drop, Array.length_toList, hRs, hvl]
    omega
  have hl2 : R2.length = G * 5 := by
    rw [hR2]
    simp only [List.length_append, List.length_take, List.length_drop, hl1, hcl]
    omega
  have hfin : R2.take ((n + 1) * 5) = cs.take (i * 5) ++ vs ++ cs.drop (i * 5) := by
    have := grow_abs (cs.take (i * 5)) vs (cs.drop (i * 5)) (ROW.toList.drop (i * 5 + vs.length)) (R1.drop ((i + 1) * 5 + (cs.drop (i * 5)).length))
    rw [hAl, hBl, hvl] at this
    rw [← this, hR2]
    congr 1
    · omega
    · rw [hR1, hRt, hvl, hBl, show (i + 1) * 5 = i * 5 + 5 by omega]
  have hne1 : vb ≠ w.heap.size := Nat.ne_of_lt hv.1
  have hne2 : g ≠ w.heap.size := Nat.ne_of_lt hg.1
  obtain ⟨W1, hW1⟩ : ∃ W1, W1 = (w.alloc (.cells ROW 53)).drew := ⟨_, rfl⟩
  have hN1 : W1.heap[w.heap.size]? = some (.cells ROW 53 (0, 0)) := by rw [hW1]; exact heap_alloc_new _ _
  have hB1 : Below w.heap.size w W1 := by rw [hW1]; exact ((Below.refl _ w).alloc (Nat.le_refl _) _).drew
  have hg1 : Row W1 g (.cells cur 53) := Row.below hg hB1
  have hv1 : Row W1 vb (.cells vs.toArray 53) := Row.below hv hB1
  obtain ⟨W2, hW2⟩ : ∃ W2, W2 = W1.setRow w.heap.size R1.toArray := ⟨_, rfl⟩
  have hN2 : W2.heap[w.heap.size]? = some (.cells R1.toArray 53 (0, 0)) := by rw [hW2]; exact setRow_heap _ _ _ _ _ _ hN1
  have hg2 : Row W2 g (.cells cur 53) := ⟨by rw [hW2]; simpa using hg1.1, by rw [hW2, setRow_other _ _ _ _ hne2]; exact hg1.2⟩
  have hcpA : ∀ ty dc, (Builtin.copy_ #[47, 47] ty #[.slice (some ⟨w.heap.size, i * 5, none⟩) (n + 1 - i) dc, .slice (some ⟨vb, 0, none⟩) 1 1]).run Tryz.prog W1 = .ok (goInt ((1 : Nat) : Int)) W2 := fun ty dc => by
    rw [run_copy_rowK W1 _ _ ty 53 5 1 w.heap.size (i * 5) (n + 1 - i) dc ⟨vb, 0, none⟩ 1 1 ROW 53 vs Tryz.underlying47 hps hN1 (by simp only [Nat.min_def]; split <;> omega) (by omega) (news_at hv1) (by rw [hRs]; omega) h1v, ← hR1, ← hW2]
  have hcpB : ∀ ty dc sc, (Builtin.copy_ #[47, 47] ty #[.slice (some ⟨w.heap.size, (i + 1) * 5, none⟩) (n - i) dc, .slice (some ⟨g, i * 5, none⟩) (n - i) sc]).run Tryz.prog W2.drew = .ok (goInt ((n - i : Nat) : Int)) (W2.drew.setRow w.heap.size R2.toArray) := fun ty dc sc => by
    rw [run_copy_rowK W2.drew _ _ ty 53 5 (n - i) w.heap.size ((i + 1) * 5) (n - i) dc ⟨g, i * 5, none⟩ (n - i) sc R1.toArray 53 (cs.drop (i * 5)) Tryz.underlying47 hps hN2 (by simp) hBl
      (fun j v hj => by rw [Addr.add_lit]; exact Row.cell_take (W := W2.drew) hg2 hx (by rwa [List.getElem?_drop] at hj)) (by rw [List.size_toArray, hl1, hBl]; omega) (fun v hv => h1c v (List.mem_of_mem_drop hv)), List.toList_toArray, ← hR2]
  have hend : (W2.drew.setRow w.heap.size R2.toArray).ownsRow w.heap.size 53 5 (.slice (some ⟨w.heap.size, 0, none⟩) (n + 1) G) (n + 1) (cs.take (i * 5) ++ vs ++ cs.drop (i * 5)) ∧ Below w.heap.size w (W2.drew.setRow w.heap.size R2.toArray) := by
    refine ⟨⟨by rw [← hfin, List.length_take, hl2]; omega, .inr ⟨w.heap.size, G, R2.toArray, rfl, Nat.le_refl _, setRow_heap W2.drew _ _ _ _ _ hN2, hGn, hGm, by simp [hl2], hfin⟩⟩, ?_⟩
    refine below_setRow ?_ (Nat.le_refl _) _
    rw [hW2]
    exact (below_setRow hB1 (Nat.le_refl _) _).drew
  have HE := Lib.hid hend
  have hGi : ¬ (G = i) := by omega
  have hGim : ¬ (G = i + 1) := by omega
  have hci : ¬ (n = i) := by omega
  have hz2 : ¬ ((i : Int) = (n : Int)) := by omega
  have hz3 : (n : Int) < (n : Int) + 1 := by omega
  have hw1 : IntKind.i64.wrap ((i : Int) + 1) = (i : Int) + 1 := by rw [IntKind.wrap_i64]; omega
  have hw2 : IntKind.i64.wrap ((n : Int) + 1) = (n : Int) + 1 := by rw [IntKind.wrap_i64]; omega
  have hw3 : IntKind.i64.wrap ((n : Int) + 1 - (i : Int)) = (n : Int) + 1 - (i : Int) := by rw [IntKind.wrap_i64]; omega
  have htn : ((i : Int) + 1).toNat = i + 1 := by omega
  have hb1 : (0 : Int) ≤ (i : Int) + 1 := by omega
  have hin : i ≤ n := by omega
  have hin2 : i ≤ n + 1 := by omega
  have hb3 : (i : Int) ≤ (n : Int) + 1 := by omega
  have mixed : Tryz.prog.follows .mixedOrders = true := by kernel_rfl
  have hW1' := Lib.hid hW1
  have hrz2 : ∀ ty, (Builtin.append_ #[47, 3] ty #[.slice (some ⟨g, 0, none⟩) i n, .int .i64 ((n : Int) + 1 - (i : Int))]).run Tryz.prog w = .ok (.slice (some ⟨w.heap.size, 0, none⟩) (n + 1) G) W1 := fun ty => by rw [hrz ty, hW1]; rfl
  clear hrz hROW hR1 hR2 hl1 hl2 hfin hRt hend hcl hx hAl hBl hold hG hGm hRs hg hv hg1 hv1 hg2 hN1 hN2 hB1 h1c h1v hW1 hW2 hne1 hne2 hps hi0 hz0 hzs hzb
  go_enter Tryz.func94, Tryz.ntmps94
  go_wp2_with (first
    | (at_builtin; refine Lib.wpList_append_run _ rfl _ _ _ _ rfl _ _ rfl rfl _ _ (hrz2 _) ?_)
    | (at_builtin; refine wpList_copy_runI _ rfl _ _ 47 47 rfl _ _ rfl rfl (hcpA _ _) ?_))
  go_region_law_o (refine step_copy_runI rfl _ _ 47 47 rfl _ _ (by simp [Act.eval, Act.put]) (by simp [Act.eval, Act.put]) (hcpB _ _ _) ?_)
  go_wp2
  go_ret
  exact ⟨_, rfl, HE.out⟩
theorem setRow_grown {w w' : World} {g : Nat} {row : Option Nat} (h : w.grownBy w' row) (hr : row = some g) (R : Array Value) : w.grownBy (w'.setRow g R) row :=
  ⟨h.os, h.tape, h.output, by simpa using h.size, fun k hk hne => by rw [setRow_other _ _ _ _ (fun e => hne (by rw [hr, e]))]; exact h.block k hk hne⟩
/-- slices.Insert of one point. -/
theorem dinsert (base i n vb : Nat) (p : Option Addr) (c : Nat) (cs vs : List Value) (hn : n ≤ 1000) (hi : i ≤ n) (w : World) (hb : base ≤ w.heap.size) (ho : w.ownsRow base 53 5 (.slice p n c) n cs)
    (hv : Row w vb (.cells vs.toArray 53)) (hvl : vs.length = 5) (hne : (Value.slice p n c).ownBlock ≠ some vb) (h1c : ∀ v ∈ cs, v.oneCell' = true) (h1v : ∀ v ∈ vs, v.oneCell' = true) :
    Calls Tryz.prog 94 #[.slice p n c, .int .i64 i, .slice (some ⟨vb, 0, none⟩) 1 1] w fun e w' =>
      ∃ p' c', e = .returned (.slice p' (n + 1) c') ∧ w'.ownsRow base 53 5 (.slice p' (n + 1) c') (n + 1) (cs.take (i * 5) ++ vs ++ cs.drop (i * 5)) ∧ w.grownBy w' (Value.slice p n c).ownBlock := by
  have key : ∀ (R : Ending → World → Prop), (Calls Tryz.prog 94 #[.slice p n c, .int .i64 i, .slice (some ⟨vb, 0, none⟩) 1 1] w fun e w' => ∃ s, e = .returned s ∧ w'.ownsRow base 53 5 s (n + 1) (cs.take (i * 5) ++ vs ++ cs.drop (i * 5)) ∧ w.grownBy w' (Value.slice p n c).ownBlock) →
      Calls Tryz.prog 94 #[.slice p n c, .int .i64 i, .slice (some ⟨vb, 0, none⟩) 1 1] w fun e w' => ∃ p' c', e = .returned (.slice p' (n + 1) c') ∧ w'.ownsRow base 53 5 (.slice p' (n + 1) c') (n + 1) (cs.take (i * 5) ++ vs ++ cs.drop (i * 5)) ∧ w.grownBy w' (Value.slice p n c).ownBlock := fun _ h =>
    h.mono fun e w' ⟨s, h1, h2, h3⟩ => by
      obtain ⟨A, k, rfl⟩ := own_slice h2
      exact ⟨A, k, h1, h2, h3⟩
  refine key (fun _ _ => True) ?_
  have hcl := ho.1
  obtain ⟨_, ⟨he, rfl⟩ | ⟨g, cap, cur, he, hg0, hgg, hnc, hcm, hcs, hx⟩⟩ := ho
  · cases he
    obtain rfl : i = 0 := by omega
    obtain rfl : cs = [] := List.length_eq_zero_iff.1 (by omega)
    refine (dinsert_nil base vb [] vs w hb ⟨rfl, .inl ⟨rfl, rfl⟩⟩ hv hvl h1v).mono ?_
    rintro e w' ⟨s, h1, h2, h3⟩
    exact ⟨s, h1, by simpa using h2, h3⟩
  · cases he
    have hg : Row w g (.cells cur 53) := ⟨(Array.getElem?_eq_some_iff.1 hgg).1, hgg⟩
    have hvg : vb ≠ g := fun e => hne (by simp [Value.ownBlock, e])
    have ho : w.ownsRow base 53 5 (.slice (some ⟨g, 0, none⟩) n c) n cs := ⟨hcl, .inr ⟨g, c, cur, rfl, hg0, hgg, hnc, hcm, hcs, hx⟩⟩
    rcases Nat.lt_or_ge i n with hin | hin
    · rcases Nat.lt_or_ge n c with hroom | hroom
      · obtain ⟨R1, hR1⟩ : ∃ R1 : List Value, R1 = cur.toList.take (i * 5 + 5) ++ cs.drop (i * 5) ++ cur.toList.drop (i * 5 + 5 + (cs.drop (i * 5)).length) := ⟨_, rfl⟩
        obtain ⟨R2, hR2⟩ : ∃ R2 : List Value, R2 = R1.take (i * 5) ++ vs ++ R1.drop (i * 5 + vs.length) := ⟨_, rfl⟩
        refine (dinsert_shift g n c i vb cur cs vs w hin hroom (by unfold maxLen at hcm; omega) hg hcs hx hv hvl hvg h1c h1v R1 R2 hR1 hR2).mono ?_
        rintro e w' ⟨rfl, rfl⟩
        refine ⟨_, rfl, ⟨by simp only [List.length_append, List.length_take, List.length_drop, hcl, hvl]; omega, .inr ⟨g, c, R2.toArray, rfl, hg0, ?_, by omega, hcm, ?_, ?_⟩⟩, ?_⟩
        · exact setRow_heap _ _ _ _ _ _ (setRow_heap w.drew g cur _ _ _ hgg)
        · obtain ⟨l1, l2⟩ := ins_size (vs := vs) (b := n * 5) hx (by simp; omega) (show i * 5 ≤ n * 5 by omega) hvl rfl
          rw [← hR1] at l1 l2
          rw [← hR2] at l2
          simp [l2, hcs]
        · have := ins_list (vs := vs) (b := n * 5) hx (by simp; omega) (show i * 5 ≤ n * 5 by omega) hvl (cur.toList.drop (i * 5 + 5 + (cs.drop (i * 5)).length))
          rw [← hR1, ← hR2] at this
          rw [show (n + 1) * 5 = n * 5 + 5 by omega]
          simpa using this
        · exact (setRow_grown (setRow_grown (show w.grownBy w.drew (some g) from ⟨rfl, rfl, rfl, Nat.le_refl _, fun _ _ _ => rfl⟩) rfl _) rfl _ : w.grownBy _ (some g))
      · obtain rfl : n = c := by omega
        refine (dinsert_grow g n i vb cur cs vs w hin hn hg hx hcl hv hvl h1c h1v).mono ?_
        rintro e w' ⟨s, h1, h2, h3⟩
        exact ⟨s, h1, own_at h2 hb, ⟨h3.os, h3.tape, h3.output, h3.size, fun k hk _ => h3.block k hk⟩⟩
    · obtain rfl : i = n := by omega
      have e1 : cs.take (i * 5) = cs := List.take_of_length_le (by omega)
      have e2 : cs.drop (i * 5) = [] := List.drop_eq_nil_of_le (by omega)
      rw [e1, e2, List.append_nil]
      rcases Nat.lt_or_ge i c with hroom | hroom
      · exact dinsert_room g base i c vb cs vs hn hroom w hb ho hv hvl h1v
      · obtain rfl : i = c := by omega
        exact dinsert_full g base i vb cs vs hn w hb ho hv hvl h1v
end Go.Proofs.YtngohpgkceedeaaGreatDoor
