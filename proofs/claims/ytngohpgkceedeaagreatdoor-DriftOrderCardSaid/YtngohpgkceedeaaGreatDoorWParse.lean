/-
  parse: the number that a valid string is.
-/
import Derived.Lib.AtoiErrMem
import Derived.OneCell
import Derived.Test.YtngohpgkceedeaaGreatDoorWOver
import Derived.Test.YtngohpgkceedeaaGreatDoorWValid
namespace Go.Proofs.YtngohpgkceedeaaGreatDoor
open Go Go.RowKit Go.Lib Go.Shelf

theorem digitVal_dig {c : UInt8} (h : isDig c = true) : Lib.digitVal c = some (c.toNat - 48) := by
  unfold isDig at h
  simp only [Bool.and_eq_true, decide_eq_true_eq] at h
  unfold Lib.digitVal
  rw [if_pos h]
theorem decFrom_dig : ∀ (l : List UInt8) (acc : Nat), (∀ c ∈ l, isDig c = true) → Lib.decFrom acc l = some (acc * 10 ^ l.length + evalD l)
  | [], acc, _ => by simp [Lib.decFrom, evalD]
  | c :: r, acc, h => by
    rw [Lib.decFrom, digitVal_dig (h c (by simp))]
    simp only
    rw [decFrom_dig r _ (fun c hc => h c (by simp [hc]))]
    congr 1
    rw [show c :: r = [c] ++ r from rfl, evalD_append]
    have : evalD [c] = c.toNat - 48 := by simp [evalD]
    rw [this, List.length_append, List.length_singleton, Nat.add_comm 1, Nat.pow_succ, Nat.add_mul, Nat.mul_assoc, Nat.mul_comm 10]
    omega
theorem atoi_dig {l : List UInt8} (hd : ∀ c ∈ l, isDig c = true) (hn : l ≠ []) : Lib.atoi l = some (evalD l : Int) := by
  cases l with
  | nil => exact absurd rfl hn
  | cons c r =>
    have hc := hd c (by simp)
    unfold isDig at hc
    simp only [Bool.and_eq_true, decide_eq_true_eq] at hc
    have h45 : (c == 45) = false := by rw [beq_eq_false_iff_ne]; intro e; rw [e] at hc; exact absurd hc.1 (by decide)
    have h43 : (c == 43) = false := by rw [beq_eq_false_iff_ne]; intro e; rw [e] at hc; exact absurd hc.1 (by decide)
    unfold Lib.atoi
    simp only [h45, h43, Lib.decNat, List.isEmpty_cons, Bool.false_eq_true, if_false]
    rw [decFrom_dig _ _ hd]
    simp
theorem atoi_small (s : ByteArray) (hd : ∀ c ∈ s.data.toList, isDig c = true) (hn : s.data.toList ≠ []) (h4 : s.data.toList.length ≤ 18) (w : World) :
    Calls Tryz.prog 197 #[.string s] w fun e w' => e = .returned (.tuple #[.int .i64 (evalD s.data.toList : Nat), .nilIface]) ∧ Below w.heap.size w w' := by
  refine (Tryz.strconv_Atoi s (evalD s.data.toList : Nat) (show s.data.size ≤ 18 from by rw [← Array.length_toList]; exact h4) (atoi_dig hd hn) w).mono ?_
  rintro e w' ⟨rfl, t, rfl⟩
  exact ⟨rfl, bytesWorld_below w _ t⟩
theorem atoi_list (l : List UInt8) (hd : ∀ c ∈ l, isDig c = true) (hn : l ≠ []) (h4 : l.length ≤ 18) (w : World) :
    Calls Tryz.prog 197 #[.string ⟨l.toArray⟩] w fun e w' => e = .returned (.tuple #[.int .i64 (evalD l : Nat), .nilIface]) ∧ Below w.heap.size w w' :=
  atoi_small ⟨l.toArray⟩ hd hn h4 w
theorem ba_ext {a b : ByteArray} (h : a.data.toList = b.data.toList) : a = b := by
  obtain ⟨⟨a⟩⟩ := a
  obtain ⟨⟨b⟩⟩ := b
  simp only at h
  rw [h]
theorem ext_take (l : List UInt8) (i j : Nat) (h : l.length ≤ j) : ({ data := l.toArray } : ByteArray).extract i j = ⟨(l.drop i).toArray⟩ := by
  apply ba_ext
  rw [ByteArray.data_extract, Array.toList_extract]
  simp only [List.extract]
  rw [List.take_of_length_le (by rw [List.length_drop]; exact Nat.sub_le_sub_right h i)]
theorem ext_take0 (l : List UInt8) (i : Nat) : ({ data := l.toArray } : ByteArray).extract 0 i = ⟨(l.take i).toArray⟩ := by
  apply ba_ext
  rw [ByteArray.data_extract, Array.toList_extract]
  simp [List.extract]
theorem own_below {w w' : World} {base : Nat} {e : TypeId} {size : Nat} {v : Value} {n : Nat} {xs : List Value} (h : w.ownsRow base e size v n xs) (hb : Below w.heap.size w w') : w'.ownsRow base e size v n xs := by
  refine ⟨h.1, ?_⟩
  rcases h.2 with h2 | ⟨g, cap, cur, h1, h2, h3, h4⟩
  · exact .inl h2
  · exact .inr ⟨g, cap, cur, h1, h2, (hb.block g (Array.getElem?_eq_some_iff.1 h3).1).trans h3, h4⟩

/-- What parse's loop holds: p bytes are left, the groups l are read. -/
structure ParseInv (D : List UInt8) (p : Nat) (l : List Nat) : Prop where
  small : Small l
  sum : evalD D = val l + 10000 ^ l.length * evalD (D.take p)
  le : p ≤ D.length
  len : 4 * l.length + p ≤ D.length + 3
  eq : 0 < p → 4 * l.length + p = D.length
theorem ParseInv.start (D : List UInt8) : ParseInv D D.length [] := ⟨small_nil, by simp [val], Nat.le_refl _, by simp, by simp⟩
theorem ParseInv.step {D : List UInt8} (hd : ∀ c ∈ D, isDig c = true) {p : Nat} {l : List Nat} (h : ParseInv D p l) (hp : 0 < p) : ParseInv D (p - 4) (l ++ [evalD ((D.take p).drop (p - 4))]) := by
  have e : D.take p = D.take (p - 4) ++ (D.take p).drop (p - 4) := by
    have := (List.take_append_drop (p - 4) (D.take p)).symm
    rwa [List.take_take, Nat.min_eq_left (by omega)] at this
  have hl : ((D.take p).drop (p - 4)).length = p - (p - 4) := by rw [List.length_drop, List.length_take, Nat.min_eq_left h.le]
  have hdc : ∀ c ∈ (D.take p).drop (p - 4), isDig c = true := fun c hc => hd c (List.mem_of_mem_take (List.mem_of_mem_drop hc))
  refine ⟨h.small.append (Small.mk (evalD_small _ hdc (by omega)) small_nil), ?_, by have := h.le; omega, ?_, ?_⟩
  · rw [h.sum, val_snoc, List.length_append, List.length_singleton]
    have : evalD (D.take p) = evalD ((D.take p).drop (p - 4)) + 10000 * evalD (D.take (p - 4)) := by
      conv => lhs; rw [e]
      refine evalD_chunk _ _ ?_
      rcases Nat.lt_or_ge p 4 with h4 | h4
      · left; rw [show p - 4 = 0 by omega]; rfl
      · right; omega
    rw [this, Nat.pow_succ, Nat.mul_add, Nat.add_assoc]
    congr 1
    rw [Nat.mul_comm (evalD _) (10000 ^ _), Nat.mul_assoc]
  · rw [List.length_append, List.length_singleton]
    have := h.eq hp
    have := h.le
    omega
  · intro _
    rw [List.length_append, List.length_singleton]
    have := h.eq hp
    omega

set_option maxRecDepth 100000 in
set_option maxHeartbeats 600000 in
theorem parse_any (s : ByteArray) (w : World) (hd : ∀ c ∈ body s.data.toList, isDig c = true) (h200 : (body s.data.toList).length ≤ 200) :
    Calls Tryz.prog 168 #[.string s] w fun e w' => ∃ A n c, e = .returned (.agg #[.bool (decide ((body s.data.toList).length < s.size)), .slice A n c]) ∧ IsNum w' A n c (evalD (body s.data.toList)) ∧ Below w.heap.size w w' := by
  obtain ⟨i0, hi, hz0, hz1, hz2⟩ := info_parts intInfo
  have hI0 := ParseInv.start (body s.data.toList)
  generalize hD : body s.data.toList = D at *
  go_enter Tryz.func168, Tryz.ntmps168
  go_wp2_with (first
    | (go_at_call 151; refine (trim_minus _ _).mono ?_; rintro e w1 ⟨rfl, rfl⟩; rw [hD]))
  go_loopw [3] (fun d wr => ∃ (p : Nat) (A : Option Addr) (cp : Nat) (l : List Nat), d = .string ⟨(D.take p).toArray⟩ ∧ wr.heap[w.heap.size + 1]? = some (.cells #[.bool (decide (D.length < s.size)), .slice A l.length cp] 137 (0, 0)) ∧ wr.heap[w.heap.size]? = some (.cells #[.bool false, .slice none 0 0] 137 (0, 0)) ∧ wr.ownsRow (w.heap.size + 1 + 1) 3 1 (.slice A l.length cp) l.length (ints l) ∧ Below w.heap.size w wr ∧ Hid (ParseInv D p l) ∧ p ≤ D.length ∧ l.length ≤ 60)
    (fun d _ => match d with | .string s => s.size | _ => 0)
  case atStart =>
    refine ⟨D.length, none, 0, [], by rw [List.take_length], ?_, ?_, World.ownsRow_nil _ _ _ _, ((Below.refl _ w).alloc (Nat.le_refl _) _).alloc (by simp) _, hI0, Nat.le_refl _, by simp⟩
    · exact (by simp : w.heap.size + 1 = (w.alloc (.cells #[Value.bool false, .slice none 0 0] 137)).heap.size) ▸ heap_alloc_new _ _
    · rw [Below.heap_alloc _ _ _ (by simp)]
      exact heap_alloc_new _ _
  case round =>
    obtain ⟨p, A, cp, l, rfl, hx, hr, hown, hB, hI, hp, hl⟩ := hrel
    have hx1 : wr.cell? ⟨w.heap.size + 1, 1, none⟩ = some (.slice A l.length cp) := cell_of_row _ _ 1 _ _ _ hx
    have hx2 := frozen_of_row _ _ 1 _ _ hx
    have hx0 : wr.cell? ⟨w.heap.size + 1, 0, none⟩ = some (.bool (decide (D.length < s.size))) := cell_of_row _ _ 0 _ _ _ hx
    have hxlt : w.heap.size + 1 < wr.heap.size := (Array.getElem?_eq_some_iff.1 hx).1
    by_cases hp0 : p = 0
    · subst hp0
      rw [List.take_zero]
      have hnum : NumV wr A l.length l := Reads.of_own hown
      have hsum := hI.out.sum
      rw [List.take_zero, show evalD [] = 0 from rfl, Nat.mul_zero, Nat.add_zero] at hsum
      have HS := Lib.hid hsum
      have hr0 : wr.cell? ⟨w.heap.size, 0, none⟩ = some (.bool false) := cell_of_row _ _ 0 _ _ _ hr
      have hr1 : wr.cell? ⟨w.heap.size, 1, none⟩ = some (.slice none 0 0) := cell_of_row _ _ 1 _ _ _ hr
      have hr2 : wr.frozen? ⟨w.heap.size, 0, none⟩ = false := frozen_of_row _ _ 0 _ _ hr
      have hr3 : wr.frozen? ⟨w.heap.size, 1, none⟩ = false := frozen_of_row _ _ 1 _ _ hr
      have hrs0 : ∀ X v u, (wr.setCell ⟨w.heap.size + 1, 1, none⟩ v).setCell ⟨w.heap.size, 0, none⟩ u = X → X.cell? ⟨w.heap.size, 1, none⟩ = some (.slice none 0 0) := by
        rintro X v u rfl
        rw [World.cell?_setCell_other _ _ _ _ (by simp), World.cell?_setCell_other _ _ _ _ (by simp)]
        exact hr1
      clear hsum
      go_wp2_with (go_at_call 170; go_must (refine (trimmed_any A l.length cp l _ hnum (by omega) (own_le hown) hI.out.small).mono ?_; rintro e1 Wt ⟨⟨kt, rfl, hkt, hNt, hnt, hvt⟩, rfl⟩))
      have hAb : ∀ ad, A = some ad → w.heap.size + 1 + 1 ≤ ad.block := fun ad ea => own_ge hown _ (by rw [ea]; rfl)
      have hn1 : IsNum Wt A kt cp (evalD D) := ⟨_, hNt, hnt, by rw [hvt, ← HS.out], by have := own_le hown; omega⟩
      have hn2 := ((hn1.setOff (p := ⟨w.heap.size + 1, 1, none⟩) (fun ad ea => by have := hAb ad ea; simp; omega) (.slice A kt cp)).setOff (p := ⟨w.heap.size, 0, none⟩) (fun ad ea => by have := hAb ad ea; simp; omega) (.bool (decide (D.length < s.size)))).setOff (p := ⟨w.heap.size, 1, none⟩) (fun ad ea => by have := hAb ad ea; simp; omega) (.slice A kt cp)
      have hB2 := ((hB.setCell (p := ⟨w.heap.size + 1, 1, none⟩) (by simp) (.slice A kt cp)).setCell (p := ⟨w.heap.size, 0, none⟩) (by simp) (.bool (decide (D.length < s.size)))).setCell (p := ⟨w.heap.size, 1, none⟩) (by simp) (.slice A kt cp)
      have hend : (((Wt.setCell ⟨w.heap.size + 1, 1, none⟩ (.slice A kt cp)).setCell ⟨w.heap.size, 0, none⟩ (.bool (decide (D.length < s.size)))).setCell ⟨w.heap.size, 1, none⟩ (.slice A kt cp)).heap[w.heap.size]? = some (.cells #[.bool (decide (D.length < s.size)), .slice A kt cp] 137 (0, 0)) := by
        simp [World.setCell, Array.getElem?_modify, hr]
      generalize (((Wt.setCell ⟨w.heap.size + 1, 1, none⟩ (.slice A kt cp)).setCell ⟨w.heap.size, 0, none⟩ (.bool (decide (D.length < s.size)))).setCell ⟨w.heap.size, 1, none⟩ (.slice A kt cp)) = Wf at *
      have he0 : Wf.cell? ⟨w.heap.size, 0, none⟩ = some (.bool (decide (D.length < s.size))) := cell_of_row _ _ 0 _ _ _ hend
      have he1 : Wf.cell? ⟨w.heap.size, 1, none⟩ = some (.slice A kt cp) := cell_of_row _ _ 1 _ _ _ hend
      refine bodyPost_ret (v := .agg #[.bool (decide (D.length < s.size)), .slice A kt cp]) ?res rfl ?_
      case res => simp [results, Tryz.f168, go_sem, he0, he1]
      exact ⟨A, kt, cp, rfl, hn2, hB2⟩
    · have hI2 := Lib.hid (hI.out.step hd (by omega))
      have hcl : ((D.take p).drop (p - 4)).length = p - (p - 4) := by rw [List.length_drop, List.length_take, Nat.min_eq_left hp]
      have hcd : ∀ c ∈ (D.take p).drop (p - 4), isDig c = true := fun c hc => hd c (List.mem_of_mem_take (List.mem_of_mem_drop hc))
      have hext := ext_take (D.take p) (p - 4) p (by rw [List.length_take]; omega)
      have hext0 := ext_take0 (D.take p) (p - 4)
      rw [List.take_take, Nat.min_eq_left (by omega)] at hext0
      have hmx : max (0 : Int) ((p : Int) - 4) = ((p - 4 : Nat) : Int) := by omega
      have hl2 : l.length < 60 := by have := hI2.out.len; rw [List.length_append, List.length_singleton] at this; omega
      generalize hch : (D.take p).drop (p - 4) = ch at *
      have hcs := evalD_small ch hcd (by omega)
      have hcn : ch ≠ [] := by intro e; rw [e] at hcl; simp at hcl; omega
      have hc18 : ch.length ≤ 18 := by omega
      go_wp2_with (first
        | (go_at_call 197; go_must (refine (atoi_list ch hcd hcn hc18 _).mono ?_; rintro e w2 ⟨rfl, hb2⟩; have hx3 := (hb2.block _ hxlt).trans hx; have hy1 : w2.cell? ⟨w.heap.size + 1, 1, none⟩ = some (.slice A l.length cp) := cell_of_row _ _ 1 _ _ _ hx3; have hy2 := frozen_of_row _ _ 1 _ _ hx3))
        | (at_builtin; refine wpList_append_own _ rfl (.tmp 31) (.tmp 33) 135 rfl (w.heap.size + 1 + 1) 3 i0 (.int .i64 0) 1 8 Tryz.underlying135 hi hz0 hz1 hz2 rfl (by decide) (.slice A l.length cp) l.length (ints l) rfl ((own_below hown hb2).alloc _) ⟨w2.heap.size, 0, none⟩ 1 1 [.int .i64 (evalD ch : Nat)] rfl rfl (cell_one_new _ _ _) (by simp [Value.oneCell']) (by unfold maxLen; omega) (by omega) (by have := hb2.size; simp; omega) ?_; intro v' w3 hown3 hgrow3 _; obtain ⟨A3, c3, rfl⟩ := own_slice hown3; have hb3 : Below (w.heap.size + 1 + 1) w2 w3 := ((Below.refl _ _).alloc (by have := hb2.size; omega) _).grown hgrow3 (by simp; have := hb2.size; omega) (own_ge (own_below hown hb2)); have hx4 := (hb3.block _ (by omega)).trans hx3; have hz1' : w3.cell? ⟨w.heap.size + 1, 1, none⟩ = some (.slice A l.length cp) := cell_of_row _ _ 1 _ _ _ hx4; have hz2' := frozen_of_row _ _ 1 _ _ hx4))
      go_roundw
      case rel =>
        have hll : (l ++ [evalD ch]).length = l.length + 1 := by simp
        refine ⟨p - 4, A3, c3, l ++ [evalD ch], rfl, ?_, ?_, ?_, ?_, hI2, by omega, by rw [hll]; omega⟩
        · rw [hll]; simp [World.setCell, Array.getElem?_modify, hx4]
        · rw [Below.heap_setCell _ _ _ _ (by simp), hb3.block _ (by omega), hb2.block _ (by omega)]; exact hr
        · rw [hll, ints_append]
          exact ownsRow_setCell_below hown3 (by simp) _
        · exact ((hB.trans (hb2.mono hB.size)).trans (hb3.mono (by omega))).setCell (p := ⟨w.heap.size + 1, 1, none⟩) (by simp) _
      case measure =>
        simp [ByteArray.size]
        omega
end Go.Proofs.YtngohpgkceedeaaGreatDoor
