/-
  The reference implementation: Valid, digits.
-/
import Derived.Test.YtnfkibgoockmpaaGreatDoorRefT
import Derived.Test.YtnfkibgoockmpaaGreatDoorPlain2
import Derived.Lib.IndexBytes
namespace Go.Proofs.YtnfkibgoockmpaaGreatDoor
open Go Go.RowKit Go.Lib

theorem idx_list (s : ByteArray) (i : Nat) (h : i < s.size) : s.data.toList[i]? = some s[i] := by
  rw [Array.getElem?_toList]
  exact Array.getElem?_eq_getElem h
theorem size_len (s : ByteArray) : s.data.toList.length = s.size := by rw [Array.length_toList]; rfl
/-- What the last test says of the digits that are left. -/
def lastB (u : List UInt8) : Bool := decide (0 < u.length) && decide (u.length ≤ 200) && (u == [48] || u.head? != some 48)
theorem validB_body (s : List UInt8) : validB s = ((body s).all isDig && lastB (body s) && !(s.head? == some 45 && body s == [48])) := by
  have e0 : decide (0 < (body s).length) = !(body s).isEmpty := by cases body s <;> simp
  unfold validB lastB
  rw [e0]
  by_cases hm : s.head? = some 45
  · have e1 : (s == [48]) = false := by
      rw [beq_eq_false_iff_ne]; rintro rfl; simp at hm
    have e2 : (s.head? == some 45) = true := by simpa using hm
    rw [e1, e2]
    by_cases hb : body s = [48]
    · rw [hb]; simp
    · have e3 : (body s == [48]) = false := by simpa using hb
      rw [e3]
      cases (body s).isEmpty <;> cases decide ((body s).length ≤ 200) <;> cases (body s).all isDig <;> cases ((body s).head? != some 48) <;> rfl
  · have e : body s = s := by unfold body; rw [if_neg hm]
    have e2 : (s.head? == some 45) = false := by simpa using hm
    rw [e, e2]
    cases s.isEmpty <;> cases decide (s.length ≤ 200) <;> cases s.all isDig <;> cases (s == [48]) <;> cases (s.head? != some 48) <;> rfl
theorem ret_b {a b : Bool} (h : a = b) : Ending.returned (.bool a) = .returned (.bool b) := by rw [h]
def RBool (c : Bool) (w : World) (e : Ending) (w' : World) : Prop := e = .returned (.bool c) ∧ w' = w
theorem ext_tail (s : ByteArray) : (s.extract 1 s.size).data.toList = s.data.toList.tail := by
  rw [Lib.extract_to_end]; simp
/-- The loop's end, decided. -/
def LastW (u : ByteArray) : Prop := u.size ≤ 9223372036854775807
theorem list_beq (u : ByteArray) (l : List UInt8) : (u.toList == l) = (u.data.toList == l) := by rw [ByteArray.toList_eq]
set_option maxRecDepth 100000 in
set_option maxHeartbeats 2000000 in
theorem rvalid_any (s : ByteArray) (w : World) (hs : s.size ≤ 9223372036854775807) :
    Calls Tryz.prog 33 #[.string s] w (RBool (validB s.data.toList) w) := by
  have hvb := validB_body s.data.toList
  by_cases hA : 0 < s.size ∧ s.data.toList.head? = some 45
  · obtain ⟨h0, h45⟩ := hA
    have hc : s[0] = 45 := by
      have := idx_list s 0 h0
      rw [← List.head?_eq_getElem?, h45] at this
      injection this with this
      exact this.symm
    have hc1 : (s[0].toNat : Int) = 45 := by rw [hc]; rfl
    have hbl : body s.data.toList = (s.extract 1 s.size).data.toList := by rw [ext_tail]; unfold body; rw [if_pos h45]
    rw [hbl, h45] at hvb
    have hus : (s.extract 1 s.size).size ≤ 9223372036854775807 := by rw [ByteArray.size_extract]; omega
    clear hbl hc h45
    by_cases h48 : ((s.extract 1 s.size).data.toList == [48]) = true
    · have h48' : ((s.extract 1 s.size).toList == [48]) = true := by rw [list_beq]; exact h48
      rw [h48] at hvb
      have HV := Lib.hid hvb
      clear h48 hvb
      go_enter Tryz.func33, Tryz.ntmps33
      go_wp2
      go_ret
      exact ⟨ret_b (by rw [HV.out]; simp), rfl⟩
    · have h48' : ((s.extract 1 s.size).toList == [48]) = false := by rw [list_beq]; simpa using h48
      have hn48 : Hid (((s.extract 1 s.size).data.toList == [48]) = false) := Lib.hid (by simpa using h48)
      have HV := Lib.hid hvb
      clear h48 hvb
      go_enter Tryz.func33, Tryz.ntmps33
      go_wp2
      generalize s.extract 1 s.size = u at *
      clear hc1 h0 h48'
      go_loop [3] (fun i => ∃ k : Nat, k ≤ u.size ∧ i = .int .i64 (k : Int) ∧ Hid ((u.data.toList.take k).all isDig = true)) (fun i => u.size - (intOf i).toNat)
      case atStart => exact ⟨0, Nat.zero_le _, rfl, by show _ = _; simp⟩
      case round =>
        obtain ⟨k, hk, rfl, hall⟩ := hrel
        by_cases hlt : k < u.size
        · have hcl := Lib.hid (idx_list u k hlt)
          have hc256 : (u[k].toNat : Int) < 256 := by have := u[k].toNat_lt; omega
          have hbad : Hid (isDig u[k] = false → u.data.toList.all isDig = false) := Lib.hid (fun hf => by
            rw [List.all_eq_false]
            exact ⟨u[k], List.mem_of_getElem? hcl.out, by simp [hf]⟩)
          have hgood : Hid (isDig u[k] = true → (u.data.toList.take (k + 1)).all isDig = true) := Lib.hid (fun hf => by
            rw [List.take_add_one, hcl.out, List.all_append, hall.out]
            simp [hf])
          have hdig : Hid (isDig u[k] = (decide (48 ≤ u[k].toNat) && decide (u[k].toNat ≤ 57))) := Lib.hid rfl
          by_cases h1 : (u[k].toNat : Int) < 48
          · have hf := hbad.out (by rw [hdig.out]; simp; omega)
            have HF := Lib.hid hf
            clear hf
            go_wp2
            go_ret
            exact ⟨ret_b (by rw [HV.out, HF.out]; rfl), rfl⟩
          · by_cases h2 : 57 < (u[k].toNat : Int)
            · have hf := hbad.out (by rw [hdig.out]; simp; omega)
              have HF := Lib.hid hf
              clear hf
              go_wp2
              go_ret
              exact ⟨ret_b (by rw [HV.out, HF.out]; rfl), rfl⟩
            · have hg := hgood.out (by rw [hdig.out]; simp; omega)
              have HG := Lib.hid hg
              clear hg
              go_wp2
              go_round
              case rel => exact ⟨k + 1, by omega, by go_num, HG⟩
              case measure => simp [intOf]; omega
        · obtain rfl : k = u.size := by omega
          have hall' : u.data.toList.all isDig = true := by have := hall.out; rwa [List.take_of_length_le (by rw [size_len]; exact Nat.le_refl _)] at this
          have HALL := Lib.hid hall'
          clear hall' hall hlt
          have hlen := Lib.hid (size_len u)
          rcases Nat.eq_zero_or_pos u.size with hz | hz
          · have hl : lastB u.data.toList = false := by unfold lastB; have := hlen.out; simp; omega
            have HL := Lib.hid hl
            clear hl
            go_wp2
            go_ret
            exact ⟨ret_b (by rw [HV.out, HALL.out, HL.out]; rfl), rfl⟩
          · by_cases h200 : u.size ≤ 200
            · have hh : u.data.toList.head? = some u[0] := by rw [List.head?_eq_getElem?]; exact idx_list u 0 hz
              by_cases h48 : (u.data.toList == [48]) = true
              · have h48' : (u.toList == [48]) = true := by rw [list_beq]; exact h48
                have hl : lastB u.data.toList = true := by unfold lastB; have := hlen.out; rw [h48]; simp; omega
                have HL := Lib.hid hl
                clear hl hh h48
                go_wp2
                go_ret
                exact ⟨ret_b (by rw [HV.out, HALL.out, HL.out, hn48.out]; rfl), rfl⟩
              · have h48' : (u.toList == [48]) = false := by rw [list_beq]; simpa using h48
                by_cases hc : u[0] = 48
                · have hl : lastB u.data.toList = false := by unfold lastB; rw [hh, hc]; simp; intro _ _; simpa using h48
                  have hc1 : (u[0].toNat : Int) = 48 := by rw [hc]; rfl
                  have HL := Lib.hid hl
                  clear hl hh h48 hc
                  go_wp2
                  go_ret
                  exact ⟨ret_b (by rw [HV.out, HALL.out, HL.out]; rfl), rfl⟩
                · have hl : lastB u.data.toList = true := by unfold lastB; have := hlen.out; rw [hh]; simp; exact ⟨⟨by omega, by omega⟩, .inr hc⟩
                  have hc1 : ((u[0].toNat : Int) == 48) = false := by
                    simp; intro e; exact hc (UInt8.toNat_inj.1 (by show u[0].toNat = 48; omega))
                  have HL := Lib.hid hl
                  clear hl hh h48 hc
                  go_wp2
                  go_ret
                  exact ⟨ret_b (by rw [HV.out, HALL.out, HL.out, hn48.out]; simp only [bne, hc1]; rfl), rfl⟩
            · have hl : lastB u.data.toList = false := by unfold lastB; have := hlen.out; simp; intro _ h; omega
              have HL := Lib.hid hl
              clear hl
              go_wp2
              go_ret
              exact ⟨ret_b (by rw [HV.out, HALL.out, HL.out]; rfl), rfl⟩
  · have hno : Hid ((s.data.toList.head? == some 45) = false) := Lib.hid (by
      rw [beq_eq_false_iff_ne]
      intro e
      refine hA ⟨?_, e⟩
      rw [← size_len]
      cases hl : s.data.toList with
      | nil => rw [hl] at e; cases e
      | cons c r => simp)
    have hb : body s.data.toList = s.data.toList := by
      unfold body
      rw [if_neg]
      have := hno.out
      simpa using this
    rw [hb, hno.out] at hvb
    have HV := Lib.hid hvb
    clear hb hvb
    have hfirst : 0 < s.size → ∃ c : Int, ∃ h : 0 < s.size, (s[0].toNat : Int) = c ∧ (c == 45) = false := by
      intro h
      refine ⟨_, h, rfl, ?_⟩
      rw [beq_eq_false_iff_ne]
      intro e
      have h1 := idx_list s 0 h
      rw [← List.head?_eq_getElem?] at h1
      have h2 := hno.out
      rw [h1, beq_eq_false_iff_ne] at h2
      exact h2 (by congr 1; exact UInt8.toNat_inj.1 (by show s[0].toNat = 45; omega))
    clear hA
    obtain ⟨u, hu⟩ : ∃ u, u = s := ⟨_, rfl⟩
    subst hu
    rcases Nat.eq_zero_or_pos u.size with hz | hz
    · clear hfirst
      go_enter Tryz.func33, Tryz.ntmps33
      go_wp2
      go_loop [3] (fun i => i = .int .i64 0) (fun _ => 0)
      case atStart => rfl
      case round =>
        subst hrel
        have hl : lastB u.data.toList = false := by unfold lastB; have := size_len u; simp; omega
        have HL := Lib.hid hl
        clear hl
        go_wp2
        go_ret
        exact ⟨ret_b (by rw [HV.out, HL.out]; simp), rfl⟩
    · obtain ⟨c0, _, hc0, hc0'⟩ := hfirst hz
      clear hfirst
      go_enter Tryz.func33, Tryz.ntmps33
      go_wp2
      clear hc0 hc0' hz
      go_loop [3] (fun i => ∃ k : Nat, k ≤ u.size ∧ i = .int .i64 (k : Int) ∧ Hid ((u.data.toList.take k).all isDig = true)) (fun i => u.size - (intOf i).toNat)
      case atStart => exact ⟨0, Nat.zero_le _, rfl, by show _ = _; simp⟩
      case round =>
        obtain ⟨k, hk, rfl, hall⟩ := hrel
        by_cases hlt : k < u.size
        · have hcl := Lib.hid (idx_list u k hlt)
          have hc256 : (u[k].toNat : Int) < 256 := by have := u[k].toNat_lt; omega
          have hbad : Hid (isDig u[k] = false → u.data.toList.all isDig = false) := Lib.hid (fun hf => by
            rw [List.all_eq_false]
            exact ⟨u[k], List.mem_of_getElem? hcl.out, by simp [hf]⟩)
          have hgood : Hid (isDig u[k] = true → (u.data.toList.take (k + 1)).all isDig = true) := Lib.hid (fun hf => by
            rw [List.take_add_one, hcl.out, List.all_append, hall.out]
            simp [hf])
          have hdig : Hid (isDig u[k] = (decide (48 ≤ u[k].toNat) && decide (u[k].toNat ≤ 57))) := Lib.hid rfl
          by_cases h1 : (u[k].toNat : Int) < 48
          · have hf := hbad.out (by rw [hdig.out]; simp; omega)
            have HF := Lib.hid hf
            clear hf
            go_wp2
            go_ret
            exact ⟨ret_b (by rw [HV.out, HF.out]; rfl), rfl⟩
          · by_cases h2 : 57 < (u[k].toNat : Int)
            · have hf := hbad.out (by rw [hdig.out]; simp; omega)
              have HF := Lib.hid hf
              clear hf
              go_wp2
              go_ret
              exact ⟨ret_b (by rw [HV.out, HF.out]; rfl), rfl⟩
            · have hg := hgood.out (by rw [hdig.out]; simp; omega)
              have HG := Lib.hid hg
              clear hg
              go_wp2
              go_round
              case rel => exact ⟨k + 1, by omega, by go_num, HG⟩
              case measure => simp [intOf]; omega
        · obtain rfl : k = u.size := by omega
          have hall' : u.data.toList.all isDig = true := by have := hall.out; rwa [List.take_of_length_le (by rw [size_len]; exact Nat.le_refl _)] at this
          have HALL := Lib.hid hall'
          clear hall' hall hlt
          have hlen := Lib.hid (size_len u)
          rcases Nat.eq_zero_or_pos u.size with hz | hz
          · have hl : lastB u.data.toList = false := by unfold lastB; have := hlen.out; simp; omega
            have HL := Lib.hid hl
            clear hl
            go_wp2
            go_ret
            exact ⟨ret_b (by rw [HV.out, HALL.out, HL.out]; rfl), rfl⟩
          · by_cases h200 : u.size ≤ 200
            · have hh : u.data.toList.head? = some u[0] := by rw [List.head?_eq_getElem?]; exact idx_list u 0 hz
              by_cases h48 : (u.data.toList == [48]) = true
              · have h48' : (u.toList == [48]) = true := by rw [list_beq]; exact h48
                have hl : lastB u.data.toList = true := by unfold lastB; have := hlen.out; rw [h48]; simp; omega
                have HL := Lib.hid hl
                clear hl hh h48
                go_wp2
                go_ret
                exact ⟨ret_b (by rw [HV.out, HALL.out, HL.out]; rfl), rfl⟩
              · have h48' : (u.toList == [48]) = false := by rw [list_beq]; simpa using h48
                by_cases hc : u[0] = 48
                · have hl : lastB u.data.toList = false := by unfold lastB; rw [hh, hc]; simp; intro _ _; simpa using h48
                  have hc1 : (u[0].toNat : Int) = 48 := by rw [hc]; rfl
                  have HL := Lib.hid hl
                  clear hl hh h48 hc
                  go_wp2
                  go_ret
                  exact ⟨ret_b (by rw [HV.out, HALL.out, HL.out]; rfl), rfl⟩
                · have hl : lastB u.data.toList = true := by unfold lastB; have := hlen.out; rw [hh]; simp; exact ⟨⟨by omega, by omega⟩, .inr hc⟩
                  have hc1 : ((u[0].toNat : Int) == 48) = false := by
                    simp; intro e; exact hc (UInt8.toNat_inj.1 (by show u[0].toNat = 48; omega))
                  have HL := Lib.hid hl
                  clear hl hh h48 hc
                  go_wp2
                  go_ret
                  exact ⟨ret_b (by rw [HV.out, HALL.out, HL.out]; simp only [bne, hc1]; rfl), rfl⟩
            · have hl : lastB u.data.toList = false := by unfold lastB; have := hlen.out; simp; intro _ h; omega
              have HL := Lib.hid hl
              clear hl
              go_wp2
              go_ret
              exact ⟨ret_b (by rw [HV.out, HALL.out, HL.out]; rfl), rfl⟩
end Go.Proofs.YtnfkibgoockmpaaGreatDoor
