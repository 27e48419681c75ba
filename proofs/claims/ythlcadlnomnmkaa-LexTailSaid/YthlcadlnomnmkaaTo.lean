/-
  Parts of slices, their bounds natural numbers.
-/
import Derived.Test.YthlcadlnomnmkaaTn
set_option linter.unusedVariables false
set_option linter.unusedSimpArgs false
namespace Go.TL
open Go

section rules
variable {P : Program} {n : Nat} {env : Env} {H : Heap} {K : TK} {all : Array Oper} {rest : List Oper} {tab : Tab} {q : Bool}
variable {d : Nat} {ty : TypeId} {pos : String} {aft : Array Edge}

theorem TO.ssl2 (hT : TabOk P tab) {t e : TypeId} {i ie : TyI} {x y z : Operand} {v : SV} {sz : Nat} {es : List T} {a b : Nat} {ik ik' : IntKind} (hd : Nat.ble (d + 1) n = true) (ht : tab.get t = some i) (hk : i.k = .slice e) (he : tab.get e = some ie) (hs : ie.size = sz)
    (hx : env.val x = some v) (hv : v.elems sz = some es) (hy : env.val y = some (.t (.v (.int ik (a : Int))))) (hz : env.val z = some (.t (.v (.int ik' (b : Int))))) (h1 : a ≤ b) (h2 : b ≤ es.length)
    (k : TO q P n all rest ((d, .t (.sl sz ((es.take b).drop a))) :: env) H K) : TO q P n all (⟨some d, .slice t x (some y) (some z) none, ty, pos, aft, none⟩ :: rest) env H K :=
  TO.slice_sl hT hd ht hk he hs hx hv (.inr ⟨y, ik, rfl, hy⟩) (.inr ⟨z, ik', rfl, hz⟩) h1 h2 k

theorem TO.ssl_lo (hT : TabOk P tab) {t e : TypeId} {i ie : TyI} {x y : Operand} {v : SV} {sz : Nat} {es : List T} {a : Nat} {ik : IntKind} (hd : Nat.ble (d + 1) n = true) (ht : tab.get t = some i) (hk : i.k = .slice e) (he : tab.get e = some ie) (hs : ie.size = sz)
    (hx : env.val x = some v) (hv : v.elems sz = some es) (hy : env.val y = some (.t (.v (.int ik (a : Int))))) (h1 : a ≤ es.length)
    (k : TO q P n all rest ((d, .t (.sl sz (es.drop a))) :: env) H K) : TO q P n all (⟨some d, .slice t x (some y) none none, ty, pos, aft, none⟩ :: rest) env H K :=
  TO.slice_sl hT hd ht hk he hs hx hv (.inr ⟨y, ik, rfl, hy⟩) (.inl ⟨rfl, rfl⟩) h1 (Nat.le_refl _) (by rw [List.take_length]; exact k)

theorem TO.ssl_hi (hT : TabOk P tab) {t e : TypeId} {i ie : TyI} {x z : Operand} {v : SV} {sz : Nat} {es : List T} {b : Nat} {ik : IntKind} (hd : Nat.ble (d + 1) n = true) (ht : tab.get t = some i) (hk : i.k = .slice e) (he : tab.get e = some ie) (hs : ie.size = sz)
    (hx : env.val x = some v) (hv : v.elems sz = some es) (hz : env.val z = some (.t (.v (.int ik (b : Int))))) (h2 : b ≤ es.length)
    (k : TO q P n all rest ((d, .t (.sl sz (es.take b))) :: env) H K) : TO q P n all (⟨some d, .slice t x none (some z) none, ty, pos, aft, none⟩ :: rest) env H K :=
  TO.slice_sl hT hd ht hk he hs hx hv (.inl ⟨rfl, rfl⟩) (.inr ⟨z, ik, rfl, hz⟩) (Nat.zero_le _) h2 (by simpa using k)

/-- A conversion whose result is known. -/
theorem TO.convert_as {t t' : TypeId} {x : Operand} {ik ik' : IntKind} {a z : Int} (hd : Nat.ble (d + 1) n = true) (hu : (P.underlying t).isSome = true) (hu' : P.underlying t' = some (.int ik')) (hx : env.val x = some (.t (.v (.int ik a)))) (hz : ik'.wrap a = z)
    (k : TO q P n all rest ((d, .t (.v (.int ik' z))) :: env) H K) : TO q P n all (⟨some d, .convert t t' x, ty, pos, aft, none⟩ :: rest) env H K :=
  TO.convert_int hd hu hu' hx (by rw [hz]; exact k)

end rules
end Go.TL
