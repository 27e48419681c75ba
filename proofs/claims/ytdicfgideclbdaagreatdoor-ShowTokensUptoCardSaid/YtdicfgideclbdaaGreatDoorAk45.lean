import Derived.WideLaws
import Derived.Test.YtdicfgideclbdaaGreatDoorAk43
set_option maxHeartbeats 64000000
namespace Go.TL
open Go
section rules
variable {P:Program}{n:Nat}{env:Env}{H:Heap}{K:TK}{all:Array Oper}{rest:List Oper}{q:Bool}{d:Nat}{ty:TypeId}{pos:String}{aft:Array Edge}
theorem TO.znN{t t':TypeId}{x:Operand}(hd:Nat.ble (d+1) n=true)(hx:env.val x=some (.t (.v .nilIface)))(ht:P.underlying t=some (.interface (P.methodsAt t)))
  (k:TO q P n all rest ((d,.t (.v (.bool false)))::env) H K):TO q P n all (⟨some d,.binOp .neq t x (.const .nilIface) t',ty,pos,aft,none⟩::rest) env H K:=
 TO.op hd (fun m ac h1 h2 h3=>⟨.bool false,fun w' hw'=>by
  simp[execOp,eval_const,(h3.val hx).v_eq,eqGuard,run_neq_nil_nil w' t ht],.t _ _ (.v _)⟩) k
end rules
end Go.TL
set_option linter.all false
namespace Go.Proofs.YtdicfgideclbdaaGreatDoor
open Go Go.TL
attribute [local irreducible] TR TO Then zaj RetK Sound zac Kf GG zaQ
end Go.Proofs.YtdicfgideclbdaaGreatDoor
