/-
 errors.Is, where both errors are one that errors.New has made: true.
-/
import Derived.LaidEql
import Derived.RowKitTokens
import Derived.Stop.Asserts
import Derived.Test.YtdikaoahgleffaaGreatDoorProg
import Derived.WalkKit
set_option maxRecDepth 100000
set_option maxHeartbeats 1000000
namespace Go.Proofs.YtdikaoahgleffaaGreatDoor
open Go Go.RowKit Go.Extern.Stop Go.Stop Go.Extern
theorem isTypeOf (v:Value) (w:World):(Extern.ReflectliteType.typeOf #[.iface 274 v]).run Tryz.prog w = .ok (.iface 212 (.agg #[.pointer (some ⟨10, 274, none⟩)])) w:=by kernel_rfl
theorem callComparable (w:World):(callFunc 276 #[.agg #[.pointer (some ⟨10, 274, none⟩)]]).run Tryz.prog w = .ok (.value (.bool true)) w:=by
 have h:=@run_callFunc_extern Tryz.prog 276 _ (Extern.ReflectliteType.method fun t=>do Extern.Rtype.noPackHeld "Comparable" t;pure (.bool (← typeInfo t).comparable)) Tryz.func276 (by kernel_rfl) (by kernel_rfl) (by kernel_rfl) (by kernel_rfl) #[.agg #[.pointer (some ⟨10, 274, none⟩)]] w;rw [h];have c:((Extern.ReflectliteType.method fun t=>do Extern.Rtype.noPackHeld "Comparable" t;pure (.bool (← typeInfo t).comparable)) #[.agg #[.pointer (some ⟨10, 274, none⟩)]]).run Tryz.prog w = .ok (.bool true) w:=by kernel_rfl
 rw [c];rfl
-- 409: the number of types and a hundred, as the walk shows it; 10: the number of package-level variables: a new seat has other numbers
theorem isMethodComparable (v:Value) (w:World):(Go.method 409 212 v "Comparable").run Tryz.prog w = .ok (276, v) w:=by kernel_rfl
theorem is_comp:(Tryz.prog.info? 274).map (·.comparable)=some true:=by kernel_rfl
theorem is_size:(Tryz.prog.info? 276).map (·.size)=some 1:=by kernel_rfl
theorem is_same (a:Addr) (w:World) :
  Calls Tryz.prog 113 #[.iface 274 (.pointer (some a)),.iface 274 (.pointer (some a))] w fun e w'=>e = .returned (.bool true)∧w'=w:=by
 obtain ⟨i,hi,hcmp⟩:=Option.map_eq_some_iff.1 is_comp;obtain ⟨j,hj,hjs⟩:=Option.map_eq_some_iff.1 is_size;have h8:=@run_callFunc_extern Tryz.prog 167 _ Extern.ReflectliteType.typeOf Tryz.func167 (by kernel_rfl) (by kernel_rfl) (by kernel_rfl) (by kernel_rfl);have h32:=callComparable;have tT:=isTypeOf;have mR:=isMethodComparable;have heq:=run_eql_iface_ptr_same (P:=Tryz.prog) w a Tryz.underlying138 Tryz.underlying274 hi hcmp hj;go_enter Tryz.func113, Tryz.ntmps113;go_wp2;refine wp_loop_rounds 1 ?_;rw [rounds_succ];go_wp2;go_ret;exact ⟨rfl,rfl⟩
end Go.Proofs.YtdikaoahgleffaaGreatDoor
