/-
  errors.Is, where both errors are one that errors.New has made: true.
-/
import Derived.Test.YtngohpgkceedeaaGreatDoorProg
import Derived.WalkKit
import Derived.LaidEql
import Derived.Stop.Asserts
import Derived.RowKitTokens
namespace Go.Proofs.YtngohpgkceedeaaGreatDoor
open Go Go.RowKit Go.Extern.Stop Go.Stop Go.Extern

theorem isTypeOf (v : Value) (w : World) : (Extern.ReflectliteType.typeOf #[.iface 264 v]).run Tryz.prog w = .ok (.iface 203 (.agg #[.pointer (some ⟨9, 264, none⟩)])) w := by kernel_rfl
theorem callComparable (w : World) : (callFunc 275 #[.agg #[.pointer (some ⟨9, 264, none⟩)]]).run Tryz.prog w = .ok (.value (.bool true)) w := by
  have h := @run_callFunc_extern Tryz.prog 275 _ (Extern.ReflectliteType.method fun t => do Extern.Rtype.noPackHeld "Comparable" t; pure (.bool (← typeInfo t).comparable)) Tryz.func275 (by kernel_rfl) (by kernel_rfl) (by kernel_rfl) (by kernel_rfl) #[.agg #[.pointer (some ⟨9, 264, none⟩)]] w
  rw [h]
  have c : ((Extern.ReflectliteType.method fun t => do Extern.Rtype.noPackHeld "Comparable" t; pure (.bool (← typeInfo t).comparable)) #[.agg #[.pointer (some ⟨9, 264, none⟩)]]).run Tryz.prog w = .ok (.bool true) w := by kernel_rfl
  rw [c]; rfl
-- 399: the number of types and a hundred, as the walk shows it; 9: the number of package-level variables: a new seat has other numbers
theorem isMethodComparable (v : Value) (w : World) : (Go.method 399 203 v "Comparable").run Tryz.prog w = .ok (275, v) w := by kernel_rfl
theorem is_comp : (Tryz.prog.info? 264).map (·.comparable) = some true := by kernel_rfl
theorem is_size : (Tryz.prog.info? 266).map (·.size) = some 1 := by kernel_rfl
set_option maxRecDepth 100000 in
set_option maxHeartbeats 1000000 in
/-- errors.Is(x, x), x a pointer to an errors.errorString. -/
theorem is_same (a : Addr) (w : World) :
    Calls Tryz.prog 129 #[.iface 264 (.pointer (some a)), .iface 264 (.pointer (some a))] w fun e w' => e = .returned (.bool true) ∧ w' = w := by
  obtain ⟨i, hi, hcmp⟩ := Option.map_eq_some_iff.1 is_comp
  obtain ⟨j, hj, hjs⟩ := Option.map_eq_some_iff.1 is_size
  have h8 := @run_callFunc_extern Tryz.prog 181 _ Extern.ReflectliteType.typeOf Tryz.func181 (by kernel_rfl) (by kernel_rfl) (by kernel_rfl) (by kernel_rfl)
  have h32 := callComparable
  have tT := isTypeOf
  have mR := isMethodComparable
  have heq := run_eql_iface_ptr_same (P := Tryz.prog) w a Tryz.underlying147 Tryz.underlying264 hi hcmp hj
  go_enter Tryz.func129, Tryz.ntmps129
  go_wp2
  refine wp_loop_rounds 1 ?_
  rw [rounds_succ]
  go_wp2
  go_ret
  exact ⟨rfl, rfl⟩
end Go.Proofs.YtngohpgkceedeaaGreatDoor
