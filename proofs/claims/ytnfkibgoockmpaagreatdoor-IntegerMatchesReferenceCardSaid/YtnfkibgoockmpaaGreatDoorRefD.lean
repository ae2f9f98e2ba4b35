/-
  The reference implementation: digits and their order.
-/
import Derived.Test.YtnfkibgoockmpaaGreatDoorRefV
import Derived.Test.YtnfkibgoockmpaaGreatDoorCmp
namespace Go.Proofs.YtnfkibgoockmpaaGreatDoor
open Go Go.RowKit Go.Lib

/-- The slice holds the digits of x, the lowest first. -/
def IsD (w : World) (A : Option Addr) (n c x : Nat) : Prop := ∃ l, NumV w A n l ∧ Norm10 l ∧ val10 l = x ∧ n ≤ c
theorem IsD.below {w w' : World} {A : Option Addr} {n c x : Nat} (h : IsD w A n c x) (hb : Below w.heap.size w w') : IsD w' A n c x :=
  let ⟨l, h1, h2, h3, h4⟩ := h; ⟨l, h1.below hb, h2, h3, h4⟩
theorem Norm10.length_le {l : List Nat} (h : Norm10 l) {K : Nat} (hv : val10 l < 10 ^ K) : l.length ≤ K := by
  by_cases hn : l = []
  · subst hn; simp
  · have h1 := txt10_norm h hn
    have h2 : l.length = (decDigits (val10 l)).length := by rw [← h1]; simp [txt10]
    rcases Nat.eq_zero_or_pos K with e | e
    · subst e
      have := h.val_pos hn
      simp at hv
      omega
    · rw [h2]; exact (dec_lt _ K e).2 hv
theorem IsD.le {w : World} {A : Option Addr} {n c x : Nat} (h : IsD w A n c x) {K : Nat} (hx : x < 10 ^ K) : n ≤ K := by
  obtain ⟨l, h1, h2, h3, _⟩ := h
  rw [h1.len]
  exact h2.length_le (by rw [h3]; exact hx)
theorem Norm10.val_zero {l : List Nat} (h : Norm10 l) : val10 l = 0 ↔ l = [] := by
  constructor
  · intro e
    by_cases hl : l = []
    · exact hl
    · have := h.val_pos hl; omega
  · rintro rfl; rfl
theorem IsD.zero {w : World} {A : Option Addr} {n c x : Nat} (h : IsD w A n c x) : n = 0 ↔ x = 0 := by
  obtain ⟨l, h1, h2, h3, _⟩ := h
  rw [h1.len, ← h3, h2.val_zero]
  exact List.length_eq_zero_iff
theorem txt10_back {l : List Nat} {u : Nat} (hs : Small10 l) (h : txt10 l = decDigits u) (hu : 0 < u) : Norm10 l ∧ val10 l = u := by
  refine ⟨⟨hs, ?_⟩, by rw [← evalD_txt10 hs, h, evalD_decDigits]⟩
  intro e
  have hne : l ≠ [] := by rintro rfl; simp at e
  have h1 := decDigits_head u hu
  rw [← h] at h1
  apply h1
  obtain ⟨m, d, rfl⟩ : ∃ m d, l = m ++ [d] := ⟨l.dropLast, l.getLast hne, (List.dropLast_concat_getLast hne).symm⟩
  rw [txt10_snoc]
  simp at e
  subst e
  rfl
def DigOk (z : Int) (w : World) (e : Ending) (w' : World) : Prop := ∃ A n c, e = .returned (.tuple #[.bool (decide (z < 0)), .slice A n c]) ∧ IsD w' A n c z.natAbs ∧ Below w.heap.size w w'
set_option maxRecDepth 100000 in
set_option maxHeartbeats 2000000 in
theorem rdigits_zero (w : World) : Calls Tryz.prog 48 #[.string ⟨#[48]⟩] w (DigOk 0 w) := by
  go_enter Tryz.func48, Tryz.ntmps48
  go_wp2
  go_loopw [5, 6] (fun v i wr => v = .slice none 0 0 ∧ i = .int .i64 0 ∧ wr = w) (fun _ _ _ => 0)
  case atStart => exact ⟨rfl, rfl, rfl⟩
  case round =>
    obtain ⟨rfl, rfl, rfl⟩ := hrel
    go_wp2
    go_ret2
    exact ⟨none, 0, 0, rfl, ⟨[], NumV.nil, norm10_nil, rfl, Nat.le_refl _⟩, Below.refl _ _⟩
set_option maxRecDepth 100000 in
set_option maxHeartbeats 2000000 in
theorem rdigits_neg (s : ByteArray) (z : Int) (w : World) (hz : Is s z) (hf : Fits z) (h : z < 0) (hsz : s.size ≤ 9223372036854775807) : Calls Tryz.prog 48 #[.string s] w (DigOk z w) := by
  obtain ⟨i0, hi, hz0, hz1, hz2⟩ := info_parts intInfo
  have h45 : s.data.toList.head? = some 45 := by unfold Is at hz; rw [hz]; exact (itoa_head z).2 h
  have h0 : 0 < s.size := by
    rw [← size_len]
    cases hl : s.data.toList with
    | nil => rw [hl] at h45; cases h45
    | cons c r => simp
  have hc1 : (s[0].toNat : Int) = 45 := by
    have := idx_list s 0 h0
    rw [← List.head?_eq_getElem?, h45] at this
    injection this with this
    rw [← this]; rfl
  have HUL : (s.extract 1 s.size).data.toList = decDigits z.natAbs := by
    rw [ext_tail]
    have := body_itoa z
    unfold Is at hz
    rw [← hz] at this
    unfold body at this
    rwa [if_pos h45] at this
  have hdz : decide (z < 0) = true := by simpa using h
  unfold DigOk
  rw [hdz]
  clear h45 hz
  obtain ⟨u, hu⟩ : ∃ u, u = s.extract 1 s.size := ⟨_, rfl⟩
  rw [← hu] at HUL
  have hul : Hid (u.data.toList = decDigits z.natAbs) := Lib.hid HUL
  have hd : Hid (∀ c ∈ u.data.toList, isDig c = true) := Lib.hid (by rw [hul.out]; exact decDigits_dig _)
  have hfin0 : Hid (∀ l, Small10 l → txt10 l = u.data.toList → Norm10 l ∧ val10 l = z.natAbs) := Lib.hid (fun l h1 h2 => txt10_back h1 (by rw [h2, hul.out]) (by omega))
  have hu200 : u.size ≤ 200 := by
    have h1 := (fits_iff z).2 hf
    rw [← hul.out, size_len] at h1
    exact h1
  have hu1 : 0 < u.size := by rw [← size_len, hul.out]; exact dec_len_pos _
  have hn48 : (u.toList == [48]) = false := by
    rw [list_beq, hul.out, beq_eq_false_iff_ne]
    intro e
    rw [← decDigits_zero] at e
    have := decDigits_inj e
    omega
  have HSE : Hid (s.size - 1 = u.size) := Lib.hid (by rw [hu, ByteArray.size_extract]; omega)
  clear HUL h hdz hf
  go_enter Tryz.func48, Tryz.ntmps48
  go_wp2_with fail
  rw [← hu]
  clear hu hc1
  go_loopw [5, 6] (fun v i wr => ∃ (x : Int) (m k : Nat) (A : Option Addr) (c : Nat) (l : List Nat), Hid (x + 1 = m) ∧ m ≤ u.size ∧ k + m ≤ u.size ∧ -1 ≤ x ∧ x < u.size ∧ i = .int .i64 x ∧ v = .slice A k c ∧ wr.ownsRow w.heap.size 3 1 (.slice A k c) k (ints l) ∧ Below w.heap.size w wr ∧ Hid (Small10 l ∧ txt10 l = u.data.toList.drop m))
    (fun _ i _ => (intOf i + 1).toNat)
  case atStart => exact ⟨(u.size : Int) - 1, u.size, 0, none, 0, [], by show _ = _; omega, Nat.le_refl _, by omega, by omega, by omega, by rw [HSE.out], rfl, World.ownsRow_nil _ _ _ _, Below.refl _ _, ⟨small10_nil, by rw [List.drop_of_length_le (by rw [size_len]; exact Nat.le_refl _)]; rfl⟩⟩
  case round =>
    obtain ⟨x, m, k, A, c, l, hxm, hmn, hkm, hx1, hxn, rfl, rfl, hown, hB, hl⟩ := hrel
    by_cases hx : 0 ≤ x
    · obtain ⟨q, rfl⟩ : ∃ q : Nat, x = (q : Int) := ⟨x.toNat, by omega⟩
      obtain rfl : m = q + 1 := by have := hxm.out; omega
      have hqn : q < u.size := by omega
      have hcl := Lib.hid (idx_list u q hqn)
      have hdq : isDig u[q] = true := hd.out _ (List.mem_of_getElem? hcl.out)
      have hd1 : 48 ≤ (u[q].toNat : Int) := by simp [isDig] at hdq; omega
      have hd2 : (u[q].toNat : Int) ≤ 57 := by simp [isDig] at hdq; omega
      have hnew : Hid (Small10 (l ++ [((u[q].toNat : Int) - 48).toNat]) ∧ txt10 (l ++ [((u[q].toNat : Int) - 48).toNat]) = u.data.toList.drop q) := Lib.hid ⟨hl.out.1.append (Small10.mk (by omega) small10_nil), by
        rw [txt10_snoc, hl.out.2, show 48 + ((u[q].toNat : Int) - 48).toNat = u[q].toNat by omega]
        have hlt : q < u.data.toList.length := by rw [size_len]; exact hqn
        rw [List.drop_eq_getElem_cons hlt]
        congr 1
        have := hcl.out
        rw [List.getElem?_eq_getElem hlt] at this
        injection this with this
        rw [this]
        simp⟩
      clear hdq hx
      go_wp2_with (at_builtin; refine wpList_append_own _ rfl (.tmp 24) (.tmp 30) 44 rfl w.heap.size 3 i0 (.int .i64 0) 1 8 Tryz.underlying44 hi hz0 hz1 hz2 rfl (by decide) (.slice A k c) k (ints l) rfl (hown.alloc _) ⟨wr.heap.size, 0, none⟩ 1 1 [.int .i64 ((u[q].toNat : Int) - 48)] rfl rfl (cell_one_new _ _ _) (by simp [Value.oneCell']) (by unfold maxLen; omega) (by omega) (by have := hB.size; simp; omega) ?_; intro v' w3 hown3 hgrow3 _; obtain ⟨A3, c3, rfl⟩ := own_slice hown3)
      go_roundw
      case rel => exact ⟨(q : Int) - 1, q, k + 1, A3, c3, l ++ [((u[q].toNat : Int) - 48).toNat], by show _ = _; omega, by omega, by omega, by omega, by omega, rfl, rfl, by rw [← ints_snoc _ _ (by omega)]; exact hown3, (hB.alloc hB.size _).grown hgrow3 (by have := hB.size; simp; omega) (own_ge hown), hnew⟩
      case measure => simp [intOf]
    · have hx' : x < 0 := by omega
      obtain rfl : m = 0 := by have := hxm.out; omega
      have hfin := Lib.hid (hfin0.out l hl.out.1 (by have := hl.out.2; rwa [List.drop_zero] at this))
      clear hx
      go_wp2
      go_ret2
      exact ⟨A, k, c, rfl, ⟨l, Reads.of_own hown, hfin.out.1, hfin.out.2, own_le hown⟩, hB⟩
set_option maxRecDepth 100000 in
set_option maxHeartbeats 2000000 in
theorem rdigits_pos (u : ByteArray) (z : Int) (w : World) (hz : Is u z) (hf : Fits z) (h : 0 < z) : Calls Tryz.prog 48 #[.string u] w (DigOk z w) := by
  obtain ⟨i0, hi, hz0, hz1, hz2⟩ := info_parts intInfo
  have HUL : u.data.toList = decDigits z.natAbs := by
    unfold Is at hz
    rw [hz]
    obtain ⟨v, rfl⟩ : ∃ v : Nat, z = v := ⟨z.natAbs, by omega⟩
    rw [itoa_nn, Int.natAbs_natCast]
  have hdz : decide (z < 0) = false := by simp; omega
  unfold DigOk
  rw [hdz]
  have hul : Hid (u.data.toList = decDigits z.natAbs) := Lib.hid HUL
  have hd : Hid (∀ c ∈ u.data.toList, isDig c = true) := Lib.hid (by rw [hul.out]; exact decDigits_dig _)
  have hfin0 : Hid (∀ l, Small10 l → txt10 l = u.data.toList → Norm10 l ∧ val10 l = z.natAbs) := Lib.hid (fun l h1 h2 => txt10_back h1 (by rw [h2, hul.out]) (by omega))
  have hu200 : u.size ≤ 200 := by
    have h1 := (fits_iff z).2 hf
    rw [← hul.out, size_len] at h1
    exact h1
  have hu1 : 0 < u.size := by rw [← size_len, hul.out]; exact dec_len_pos _
  have hn48 : (u.toList == [48]) = false := by
    rw [list_beq, hul.out, beq_eq_false_iff_ne]
    intro e
    rw [← decDigits_zero] at e
    have := decDigits_inj e
    omega
  have hc1 : 48 ≤ (u[0].toNat : Int) := by
    have h1 := hd.out u[0] (List.mem_of_getElem? (idx_list u 0 hu1))
    simp [isDig] at h1; omega
  have hc2 : (u[0].toNat : Int) ≤ 57 := by
    have h1 := hd.out u[0] (List.mem_of_getElem? (idx_list u 0 hu1))
    simp [isDig] at h1; omega
  have hc3 : ((u[0].toNat : Int) == 45) = false := by rw [beq_eq_false_iff_ne]; omega
  clear HUL h hdz hf hz
  go_enter Tryz.func48, Tryz.ntmps48
  go_wp2
  clear hc1 hc2 hc3
  go_loopw [5, 6] (fun v i wr => ∃ (x : Int) (m k : Nat) (A : Option Addr) (c : Nat) (l : List Nat), Hid (x + 1 = m) ∧ m ≤ u.size ∧ k + m ≤ u.size ∧ -1 ≤ x ∧ x < u.size ∧ i = .int .i64 x ∧ v = .slice A k c ∧ wr.ownsRow w.heap.size 3 1 (.slice A k c) k (ints l) ∧ Below w.heap.size w wr ∧ Hid (Small10 l ∧ txt10 l = u.data.toList.drop m))
    (fun _ i _ => (intOf i + 1).toNat)
  case atStart => exact ⟨(u.size : Int) - 1, u.size, 0, none, 0, [], by show _ = _; omega, Nat.le_refl _, by omega, by omega, by omega, rfl, rfl, World.ownsRow_nil _ _ _ _, Below.refl _ _, ⟨small10_nil, by rw [List.drop_of_length_le (by rw [size_len]; exact Nat.le_refl _)]; rfl⟩⟩
  case round =>
    obtain ⟨x, m, k, A, c, l, hxm, hmn, hkm, hx1, hxn, rfl, rfl, hown, hB, hl⟩ := hrel
    by_cases hx : 0 ≤ x
    · obtain ⟨q, rfl⟩ : ∃ q : Nat, x = (q : Int) := ⟨x.toNat, by omega⟩
      obtain rfl : m = q + 1 := by have := hxm.out; omega
      have hqn : q < u.size := by omega
      have hcl := Lib.hid (idx_list u q hqn)
      have hdq : isDig u[q] = true := hd.out _ (List.mem_of_getElem? hcl.out)
      have hd1 : 48 ≤ (u[q].toNat : Int) := by simp [isDig] at hdq; omega
      have hd2 : (u[q].toNat : Int) ≤ 57 := by simp [isDig] at hdq; omega
      have hnew : Hid (Small10 (l ++ [((u[q].toNat : Int) - 48).toNat]) ∧ txt10 (l ++ [((u[q].toNat : Int) - 48).toNat]) = u.data.toList.drop q) := Lib.hid ⟨hl.out.1.append (Small10.mk (by omega) small10_nil), by
        rw [txt10_snoc, hl.out.2, show 48 + ((u[q].toNat : Int) - 48).toNat = u[q].toNat by omega]
        have hlt : q < u.data.toList.length := by rw [size_len]; exact hqn
        rw [List.drop_eq_getElem_cons hlt]
        congr 1
        have := hcl.out
        rw [List.getElem?_eq_getElem hlt] at this
        injection this with this
        rw [this]
        simp⟩
      clear hdq hx
      go_wp2_with (at_builtin; refine wpList_append_own _ rfl (.tmp 24) (.tmp 30) 44 rfl w.heap.size 3 i0 (.int .i64 0) 1 8 Tryz.underlying44 hi hz0 hz1 hz2 rfl (by decide) (.slice A k c) k (ints l) rfl (hown.alloc _) ⟨wr.heap.size, 0, none⟩ 1 1 [.int .i64 ((u[q].toNat : Int) - 48)] rfl rfl (cell_one_new _ _ _) (by simp [Value.oneCell']) (by unfold maxLen; omega) (by omega) (by have := hB.size; simp; omega) ?_; intro v' w3 hown3 hgrow3 _; obtain ⟨A3, c3, rfl⟩ := own_slice hown3)
      go_roundw
      case rel => exact ⟨(q : Int) - 1, q, k + 1, A3, c3, l ++ [((u[q].toNat : Int) - 48).toNat], by show _ = _; omega, by omega, by omega, by omega, by omega, rfl, rfl, by rw [← ints_snoc _ _ (by omega)]; exact hown3, (hB.alloc hB.size _).grown hgrow3 (by have := hB.size; simp; omega) (own_ge hown), hnew⟩
      case measure => simp [intOf]
    · have hx' : x < 0 := by omega
      obtain rfl : m = 0 := by have := hxm.out; omega
      have hfin := Lib.hid (hfin0.out l hl.out.1 (by have := hl.out.2; rwa [List.drop_zero] at this))
      clear hx
      go_wp2
      go_ret2
      exact ⟨A, k, c, rfl, ⟨l, Reads.of_own hown, hfin.out.1, hfin.out.2, own_le hown⟩, hB⟩
/-- digits, of a valid integer. -/
theorem rdigits_any {s : ByteArray} {z : Int} (hz : Is s z) (hf : Fits z) (w : World) : Calls Tryz.prog 48 #[.string s] w (DigOk z w) := by
  rcases Int.lt_trichotomy z 0 with h | h | h
  · exact rdigits_neg s z w hz hf h (by have := S_size hf; rw [hz.eq]; omega)
  · subst h
    have e : s = ⟨#[48]⟩ := by
      have h1 : S 0 = ⟨#[48]⟩ := by
        unfold S
        rw [show (0 : Int) = ((0 : Nat) : Int) from rfl, itoa_nn, decDigits_zero]
      rw [hz.eq, h1]
    rw [e]
    exact rdigits_zero w
  · exact rdigits_pos s z w hz hf h
end Go.Proofs.YtnfkibgoockmpaaGreatDoor
