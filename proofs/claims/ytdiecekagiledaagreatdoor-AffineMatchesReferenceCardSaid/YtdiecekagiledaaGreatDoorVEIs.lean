/- errors.Is, where both errors are one that errors.New has made: true. -/
import Derived.Test.YtdiecekagiledaaGreatDoorVMc
import Derived.RowKitTokens
import Derived.Stop.Asserts
import Derived.Test.YtdiecekagiledaaGreatDoorProg
import Derived.WalkKit
set_option maxRecDepth 100000
set_option maxHeartbeats 1000000
namespace Go.Proofs.YtdiecekagiledaaGreatDoor
open Go Go.RowKit Go.Extern.Stop Go.Stop Go.Extern Go.Proofs.Tryz
theorem qck(v:Value)(w:World):(Extern.ReflectliteType.typeOf #[.iface 275 v]).run prog w=.ok (.iface 202 (.agg #[.pointer (some ⟨10,275,none⟩)])) w:=by kernel_rfl
theorem vaK(w:World):(callFunc 277 #[.agg #[.pointer (some ⟨10,275,none⟩)]]).run prog w=.ok (.value (.bool true)) w:=by
 have h:=@run_callFunc_extern prog 277 _ (Extern.ReflectliteType.method fun t=>do Extern.Rtype.noPackHeld "Comparable" t;pure (.bool (<- typeInfo t).comparable)) func277 kr9 kr9 kr9 kr9 #[.agg #[.pointer (some ⟨10,275,none⟩)]] w;rw[h];have c:((Extern.ReflectliteType.method fun t=>do Extern.Rtype.noPackHeld "Comparable" t;pure (.bool (<- typeInfo t).comparable)) #[.agg #[.pointer (some ⟨10,275,none⟩)]]).run prog w=.ok (.bool true) w:=by kernel_rfl
 rw[c];rfl
theorem qal(v:Value)(w:World):(Go.method 409 202 v "Comparable").run prog w=.ok (277,v) w:=by kernel_rfl
theorem jcC:(prog.info? 275).map (·.comparable)=some true:=by kernel_rfl
theorem kcC:(prog.info? 277).map (·.size)=some 1:=by kernel_rfl
theorem ybX(a:Addr)(w:World) :
  Calls prog 95 #[.iface 275 (.pointer (some a)),.iface 275 (.pointer (some a))] w fun e w'=>e=.returned (.bool true)/\w'=w:=by
 obtain⟨i,hi,hcmp⟩:=DO.1 jcC;obtain⟨j,hj,hjs⟩:=DO.1 kcC;have h8:=@run_callFunc_extern prog 145 _ Extern.ReflectliteType.typeOf func145 kr9 kr9 kr9 kr9;have h32:=vaK;have tT:=qck;have mR:=qal;have heq:=run_eql_iface_ptr_same (P:=prog) w a underlying119 underlying275 hi hcmp hj;go_enter func95,ntmps95;go_wp2;refine wp_loop_rounds 1 ?_;rw[rounds_succ];go_wp2;go_ret;exact⟨rfl,rfl⟩
end Go.Proofs.YtdiecekagiledaaGreatDoor
