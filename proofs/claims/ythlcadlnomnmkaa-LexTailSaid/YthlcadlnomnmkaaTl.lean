/-
  More small rules for the walk.
-/
import Derived.Test.YthlcadlnomnmkaaTk
set_option linter.unusedVariables false
set_option linter.unusedSimpArgs false
namespace Go.TL
open Go

section rules
variable {P : Program} {n : Nat} {env : Env} {H : Heap} {K : TK} {all : Array Oper} {rest : List Oper} {tab : Tab} {q : Bool}
variable {d : Nat} {ty : TypeId} {pos : String} {aft : Array Edge}

/-- A byte as an int. -/
theorem TO.convert_u8 {t t' : TypeId} {x : Operand} {c : UInt8} (hd : Nat.ble (d + 1) n = true) (hu : (P.underlying t).isSome = true) (hu' : P.underlying t' = some (.int .i64)) (hx : env.val x = some (.t (.v (.int .u8 (c.toNat : Int)))))
    (k : TO q P n all rest ((d, .t (.v (.int .i64 (c.toNat : Int)))) :: env) H K) : TO q P n all (⟨some d, .convert t t' x, ty, pos, aft, none⟩ :: rest) env H K := by
  refine TO.convert_int hd hu hu' hx ?_
  have hc := c.toNat_lt
  rw [wrap_in (by omega) (by omega)]
  exact k

theorem run_eqb {t : TypeId} (hu : P.underlying t = some .bool) (a b : Bool) (w : World) : (Go.binOp .eql t (.bool a) (.bool b)).run P w = .ok (.bool (a == b)) w := by
  have h : ∀ d : Nat, (Op.equalIn (d + 1) t (.bool a) (.bool b)).run P w = .ok (a == b) w := fun d => by
    simp [Op.equalIn, run_underlying hu]
  simp only [Go.binOp]
  simp [Op.equal, Op.maxDepth, h 9999]

theorem run_neb {t : TypeId} (hu : P.underlying t = some .bool) (a b : Bool) (w : World) : (Go.binOp .neq t (.bool a) (.bool b)).run P w = .ok (.bool (!(a == b))) w := by
  have h : ∀ d : Nat, (Op.equalIn (d + 1) t (.bool a) (.bool b)).run P w = .ok (a == b) w := fun d => by
    simp [Op.equalIn, run_underlying hu]
  simp only [Go.binOp]
  simp [Op.equal, Op.maxDepth, h 9999]

/-- Two Bools, compared. -/
theorem TO.eqb {t t' : TypeId} {x y : Operand} {a b : Bool} (hd : Nat.ble (d + 1) n = true) (hx : env.val x = some (.t (.v (.bool a)))) (hy : env.val y = some (.t (.v (.bool b)))) (hu : P.underlying t = some .bool)
    (k : TO q P n all rest ((d, .t (.v (.bool (a == b)))) :: env) H K) : TO q P n all (⟨some d, .binOp .eql t x y t', ty, pos, aft, none⟩ :: rest) env H K :=
  TO.op hd (fun m ac h1 h2 h3 => ⟨.bool (a == b), fun w' hw' => by
    have ex := (h3.val hx).v_eq
    have ey := (h3.val hy).v_eq
    simp [execOp, ex, ey, eqGuard, run_eqb hu], .t _ _ (.v _)⟩) k

theorem TO.neb {t t' : TypeId} {x y : Operand} {a b : Bool} (hd : Nat.ble (d + 1) n = true) (hx : env.val x = some (.t (.v (.bool a)))) (hy : env.val y = some (.t (.v (.bool b)))) (hu : P.underlying t = some .bool)
    (k : TO q P n all rest ((d, .t (.v (.bool (!(a == b))))) :: env) H K) : TO q P n all (⟨some d, .binOp .neq t x y t', ty, pos, aft, none⟩ :: rest) env H K :=
  TO.op hd (fun m ac h1 h2 h3 => ⟨.bool (!(a == b)), fun w' hw' => by
    have ex := (h3.val hx).v_eq
    have ey := (h3.val hy).v_eq
    simp [execOp, ex, ey, eqGuard, run_neb hu], .t _ _ (.v _)⟩) k

end rules
end Go.TL
