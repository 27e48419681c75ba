import Derived.Maps.Keyed
import Derived.Test.YtonjiabmcbdhdaaGreatPk11
set_option linter.unusedSimpArgs false
set_option linter.unusedVariables false
namespace Go.TL
open Go
def MapGet (es : List (Value × T)) (kx : Value) : Option T → Prop
 | some t => ∃ j : Nat, es[j]? = some (kx, t) ∧ ∀ (j' : Nat) t', es[j']? = some (kx, t') → j' = j
 | none => ∀ (j : Nat) e, es[j]? = some e → e.1 ≠ kx
def MapPut (es : List (Value × T)) (kx : Value) (t : T) (es' : List (Value × T)) : Prop :=
 (∃ (j : Nat) (t0 : T), es[j]? = some (kx, t0) ∧ (∀ (j' : Nat) t', es[j']? = some (kx, t') → j' = j) ∧ es' = es.set j (kx, t)) ∨ ((∀ (j : Nat) e, es[j]? = some e → e.1 ≠ kx) ∧ es' = es ++ [(kx, t)])
def KeysOk (P : Program) (kt : TypeId) (es : List (Value × T)) : Prop := ∀ (j : Nat) e, es[j]? = some e → ∃ l, keyOf P kt e.1 = some l
theorem Fit.map {P : Program} {t : TypeId} {i : TyI} (h : Fit P t i) {k e : TypeId} (hk : i.k = .map k e) : P.underlying t = some (.map k e) := by
 obtain ⟨d, ti, z, h1, h2, h3, _⟩ := h.ex
 rw [hk] at h3
 cases d <;> simp [TK'.fits] at h3
 obtain ⟨rfl, rfl⟩ := h3
 exact h1
theorem map_get {m : M} (hm : HRel m) {id : Nat} {kt vt : TypeId} {es : List (Value × T)} (hH : m.H[id]? = some (.map kt vt es)) {p : Place} (hp : m.β[id]? = some p) :
  ∃ (a : Array MapEntry) (clock : Nat), m.w.heap[p.b]? = some (.map a clock) ∧ a.size = es.length ∧ ∀ (i : Nat) k t (e : MapEntry), es[i]? = some (k, t) → a[i]? = some e → e.key = k ∧ TRel m.A m.w t e.val ∧ e.born < clock := by
 obtain ⟨_, _, a, clock, h⟩ := hm.blk id p _ hp hH
 exact ⟨a, clock, h⟩
section find
variable {P : Program} {kt : TypeId}
theorem find_run (K : Maps.Keyed P kt) {A : Foot} {w0 : World} {es : List (Value × T)} (hks : KeysOk P kt es) {a : Array MapEntry} {clock : Nat} (hs : a.size = es.length)
  (he : ∀ (i : Nat) k t (e : MapEntry), es[i]? = some (k, t) → a[i]? = some e → e.key = k ∧ TRel A w0 t e.val ∧ e.born < clock) {kx : Value} (hkx : ∃ l, keyOf P kt kx = some l) (w : World) :
  ((Instr.findKey kt kx a.toList).run P w = .ok none w ∧ ∀ (j : Nat) e, es[j]? = some e → e.1 ≠ kx) ∨
  ∃ (j : Nat) (t : T) (e : MapEntry), (Instr.findKey kt kx a.toList).run P w = .ok (some (j, e.val)) w ∧ es[j]? = some (kx, t) ∧ a[j]? = some e ∧ TRel A w0 t e.val := by
 obtain ⟨l, hl⟩ := hkx
 have hall : ∀ e ∈ a.toList, ∃ l, keyOf P kt e.key = some l := by
  intro e hem
  obtain ⟨i, hi⟩ := List.getElem?_of_mem hem
  have hi' : a[i]? = some e := by simpa using hi
  have hlt := (Array.getElem?_eq_some_iff.1 hi').1
  have hes : es[i]? = some es[i] := List.getElem?_eq_getElem (by omega)
  obtain ⟨l', hl'⟩ := hks i _ hes
  have := (he i es[i].1 es[i].2 e hes hi').1
  exact ⟨l', by rw [this]; exact hl'⟩
 rcases K.find w hl a.toList hall with ⟨h1, h2⟩ | ⟨j, e, h1, h2, h3⟩
 ·refine .inl ⟨h1, fun j e hj hk => ?_⟩
  have hlt := (List.getElem?_eq_some_iff.1 hj).1
  have ha : a[j]? = some (a[j]'(by omega)) := Array.getElem?_eq_getElem (by omega)
  have := (he j e.1 e.2 _ hj ha).1
  exact h2 _ (List.mem_of_getElem? (i := j) (by rw [Array.getElem?_toList]; exact ha)) (this.trans hk)
 ·have h2' : a[j]? = some e := by simpa using h2
  have hlt := (Array.getElem?_eq_some_iff.1 h2').1
  have hes : es[j]? = some es[j] := List.getElem?_eq_getElem (by omega)
  obtain ⟨g1, g2, _⟩ := he j es[j].1 es[j].2 e hes h2'
  refine .inr ⟨j, es[j].2, e, h1, ?_, h2', g2⟩
  rw [hes]; congr 1
  rw [← h3, g1]
end find
section rules
variable {P : Program} {n : Nat} {env : Env} {H : Heap} {K : TK} {all : Array Oper} {rest : List Oper} {tab : Tab} {q : Bool}
variable {d : Nat} {ty : TypeId} {pos : String} {aft : Array Edge}
theorem TO.makeMap (kt vt : TypeId) {t : TypeId} (hd : Nat.ble (d + 1) n = true) (k : TO false P n all rest ((d, .mp H.length) :: env) (H ++ [.map kt vt []]) K) :
  TO false P n all (⟨some d, .makeMap t none, ty, pos, aft, none⟩ :: rest) env H K :=
 TO.eff hd (fun m ac h1 h2 h3 => by
  obtain ⟨s, hm'⟩ := grow h2 (A' := m.A) (βn := [⟨m.w.heap.size, 0, 1⟩]) (Hn := [.map kt vt []]) (w' := m.w.alloc (.map #[] 0)) rfl rfl rfl (by simp) (fun b hb => RowKit.Below.heap_alloc _ _ _ hb) (fun _ _ h => h) (fun _ _ h => .inl h) rfl
   (fun i p k g1 g2 _ => by
     cases i with
     | zero => simp at g1; subst g1; left; simp
     | succ i => simp at g1) (fun i j p q hij g1 g2 => by cases i <;> cases j <;> simp at g1 g2 hij) (fun b o g1 g2 => absurd g1 g2) (fun s i p k g1 g2 => by
     cases i with
     | zero =>
       simp at g1 g2; subst g1; subst g2
       exact ⟨rfl, rfl, #[], 0, World.alloc_heap_new _ _, rfl, by simp⟩
     | succ i => simp at g1)
  refine ⟨.map (some m.w.heap.size), ⟨m.A, m.β ++ [⟨m.w.heap.size, 0, 1⟩], m.H ++ [.map kt vt []], m.w.alloc (.map #[] 0)⟩, ?_, s, hm', by rw [h1], ?_⟩
  ·simp [execOp, Instr.makeMap, run_newObj_alloc]
  ·rw [← h1]
   exact .mp m.H.length ⟨m.w.heap.size, 0, 1⟩ (by show (m.β ++ _)[m.H.length]? = _; rw [← h2.len, List.getElem?_append_right (Nat.le_refl _)]; simp) (by intro n'; simp [tlOf])) k
def lookV (ok : Bool) (z : T) : Option T → SV
 | some t => bif ok then .tup [.t t, .b true] else .t t
 | none => bif ok then .tup [.t z, .b false] else .t z
theorem look_rel {m : M} {t : T} {x : Value} (h : TRel m.A m.w t x) (b : Bool) : SRel m (.tup [.t t, .b b]) (.tuple #[x, .bool b]) :=
 .tup _ _ rfl fun i c y hc hy => by
  match i with
  | 0 => simp at hc hy; subst hc; subst hy; exact .t _ _ h
  | 1 => simp at hc hy; subst hc; subst hy; exact .t _ _ (.v _)
  | i + 2 => simp at hc
theorem TO.lookup (hT : TabOk P tab) {t kt vt : TypeId} {i iv : TyI} {x y : Operand} {id : Nat} {es : List (Value × T)} {kv : SV} {kx : Value} {ok : Bool} {z : T} {r : Option T} (hd : Nat.ble (d + 1) n = true) (ht : tab.get t = some i) (hk : i.k = .map kt vt)
  (hvt : tab.get vt = some iv) (hz : iv.zero = [z]) (hag : iv.k.agg = false) (KK : Maps.Keyed P kt) (hx : env.val x = some (.mp id)) (hH : H[id]? = some (.map kt vt es)) (hks : KeysOk P kt es) (hy : env.val y = some kv) (hkv : ∀ m v, SRel m kv v → v = kx) (hkx : ∃ l, keyOf P kt kx = some l)
  (hr : MapGet es kx r) (k : TO q P n all rest ((d, lookV ok z r) :: env) H K) : TO q P n all (⟨some d, .lookup t x y ok, ty, pos, aft, none⟩ :: rest) env H K :=
 TO.op hd (fun m ac h1 h2 h3 => by
  have hy' := hkv _ _ (h3.val hy)
  have h := h3.val hx
  obtain ⟨zz, hz1, hz2, _, hz4⟩ := (hT vt iv hvt).zero
  obtain ⟨g1, g0, g2⟩ := zero_rel (A := m.A) (w := m.w) _ _ hz2
  have hzz : zz.cells = #[zz] := by
   have := hz4 hag
   cases zz <;> simp [Value.oneCell'] at this <;> rfl
  have hzr : TRel m.A m.w z zz := g2 0 z zz (by rw [hz]; rfl) (by rw [hzz]; rfl)
  generalize hq : ac.eval x = v at h
  cases h with
  | mp _ p hp hn =>
    have hH1 : m.H[id]? = some (.map kt vt es) := by rw [h1]; exact hH
    obtain ⟨a, clock, b1, b2, b3⟩ := map_get h2 hH1 hp
    have hlt := (Array.getElem?_eq_some_iff.1 b1).1
    obtain ⟨l, hl⟩ := hkx
    have run : ∀ w' (rr : Option (Nat × Value)), Keeps m.w w' → (Instr.findKey kt kx a.toList).run P w' = .ok rr w' →
      (Instr.lookup t (.map (some p.b)) kx ok).run P w' = .ok (match rr with | some (_, v) => (if ok then .tuple #[v, .bool true] else v) | none => (if ok then .tuple #[zz, .bool false] else zz)) w' := by
     intro w' rr kw hf
     have hb : w'.heap[p.b]? = some (.map a clock) := by rw [kw.block _ hlt]; exact b1
     have hg : (getObj p.b).run P w' = .ok (.map a clock) w' := by simp [getObj, Sem.run, hb]
     unfold Instr.lookup
     simp only [Sem.run_bind, underlying, run_program, Result.andThen_ok, (hT t i ht).map hk, Sem.run_pure, hg, KK.check w' _ hl, hf]
     cases rr with
     | some jv => cases ok <;> simp
     | none => cases ok <;> simp [hz1]
    rcases find_run (w0 := m.w) KK hks b2 b3 ⟨l, hl⟩ m.w with ⟨f1, f2⟩ | ⟨j, tt, e, f1, f2, f3, f4⟩
    ·have hrn : r = none := by
      cases r with
      | none => rfl
      | some t0 => obtain ⟨j, hj, _⟩ := hr; exact absurd rfl (f2 j _ hj)
     subst hrn
     refine ⟨if ok then .tuple #[zz, .bool false] else zz, fun w' kw => ?_, ?_⟩
     ·have f1' : (Instr.findKey kt kx a.toList).run P w' = .ok none w' := by
       rcases find_run (w0 := m.w) KK hks b2 b3 ⟨l, hl⟩ w' with ⟨g, _⟩ | ⟨j, tt, e, _, g, _⟩
       ·exact g
       ·exact absurd rfl (f2 j _ g)
      simp [execOp, hq, hy', run w' none kw f1']
     ·cases ok
      ·exact .t _ _ hzr
      ·exact look_rel hzr false
    ·cases r with
     | none => exact absurd rfl (hr j _ f2)
     | some t0 =>
       obtain ⟨jr, hjr, huniq⟩ := hr
       refine ⟨if ok then .tuple #[e.val, .bool true] else e.val, fun w' kw => ?_, ?_⟩
       ·rcases find_run (w0 := m.w) KK hks b2 b3 ⟨l, hl⟩ w' with ⟨_, g⟩ | ⟨j', tt', e', g', g2', g3', _⟩
        ·exact absurd rfl (g j _ f2)
        ·have e1 := huniq j tt f2
         have e2 := huniq j' tt' g2'
         subst e1; subst e2
         have : e' = e := by rw [f3] at g3'; cases g3'; rfl
         subst this
         simp [execOp, hq, hy', run w' _ kw g']
       ·have : tt = t0 := by
         have e1 := huniq j tt f2
         subst e1
         rw [hjr] at f2; cases f2; rfl
        subst this
        cases ok
        ·exact .t _ _ f4
        ·exact look_rel f4 true) k
theorem TO.lookup_nil (hT : TabOk P tab) {t kt vt : TypeId} {i iv : TyI} {x y : Operand} {kv : SV} {kx : Value} {ok : Bool} {z : T} (hd : Nat.ble (d + 1) n = true) (ht : tab.get t = some i) (hk : i.k = .map kt vt)
  (hvt : tab.get vt = some iv) (hz : iv.zero = [z]) (hag : iv.k.agg = false) (KK : Maps.Keyed P kt) (hx : env.val x = some (.t (.v (.map none)))) (hy : env.val y = some kv) (hkv : ∀ m v, SRel m kv v → v = kx) (hkx : ∃ l, keyOf P kt kx = some l)
  (k : TO q P n all rest ((d, lookV ok z none) :: env) H K) : TO q P n all (⟨some d, .lookup t x y ok, ty, pos, aft, none⟩ :: rest) env H K :=
 TO.op hd (fun m ac h1 h2 h3 => by
  have hy' := hkv _ _ (h3.val hy)
  have hq := (h3.val hx).v_eq
  obtain ⟨zz, hz1, hz2, _, hz4⟩ := (hT vt iv hvt).zero
  obtain ⟨g1, g0, g2⟩ := zero_rel (A := m.A) (w := m.w) _ _ hz2
  have hzz : zz.cells = #[zz] := by
   have := hz4 hag
   cases zz <;> simp [Value.oneCell'] at this <;> rfl
  have hzr : TRel m.A m.w z zz := g2 0 z zz (by rw [hz]; rfl) (by rw [hzz]; rfl)
  obtain ⟨l, hl⟩ := hkx
  refine ⟨if ok then .tuple #[zz, .bool false] else zz, fun w' kw => ?_, ?_⟩
  ·have hf : (Instr.findKey kt kx []).run P w' = .ok none w' := by
    rcases KK.find w' hl [] (by simp) with ⟨h1, _⟩ | ⟨j, e, _, h2, _⟩
    ·exact h1
    ·simp at h2
   have : (Instr.lookup t (.map none) kx ok).run P w' = .ok (if ok then .tuple #[zz, .bool false] else zz) w' := by
    unfold Instr.lookup
    simp only [Sem.run_bind, underlying, run_program, Result.andThen_ok, (hT t i ht).map hk, Sem.run_pure, KK.check w' _ hl, hf]
    cases ok <;> simp [hz1]
   simp [execOp, hq, hy', this]
  ·cases ok
   ·exact .t _ _ hzr
   ·exact look_rel hzr false) k
theorem TO.mapUpdate (hT : TabOk P tab) {t kt vt : TypeId} {i : TyI} {x y v : Operand} {id : Nat} {es es' : List (Value × T)} {kv vv : SV} {tv : T} {kx : Value} {H' : Heap} (ht : tab.get t = some i) (hk : i.k = .map kt vt)
  (KK : Maps.Keyed P kt) (hx : env.val x = some (.mp id)) (hH : H[id]? = some (.map kt vt es)) (hks : KeysOk P kt es) (hy : env.val y = some kv) (hkv : ∀ m v, SRel m kv v → v = kx) (hkx : ∃ l, keyOf P kt kx = some l)
  (hv : env.val v = some vv) (htv : vv.toT = some tv) (hp : MapPut es kx tv es') (hH' : H.set id (.map kt vt es') = H')
  (k : TO false P n all rest env H' K) : TO false P n all (⟨none, .mapUpdate t x y v, ty, pos, aft, none⟩ :: rest) env H K :=
 TO.eff0 (fun m ac h1 h2 h3 => by
  have hy' := hkv _ _ (h3.val hy)
  have hvv := (h3.val hv).toT htv
  have h := h3.val hx
  obtain ⟨l, hl⟩ := hkx
  generalize hq : ac.eval x = z at h
  cases h with
  | mp _ p hpp hn =>
    have hH1 : m.H[id]? = some (.map kt vt es) := by rw [h1]; exact hH
    obtain ⟨a, clock, b1, b2, b3⟩ := map_get h2 hH1 hpp
    have hg : (getObj p.b).run P m.w = .ok (.map a clock) m.w := by simp [getObj, Sem.run, b1]
    have hset : ∀ o', (setObj p.b o').run P m.w = .ok () (m.w.putObj p.b o') := fun o' => by simp [setObj, Sem.run, b1, World.putObj]
    have hbk := h2.blk id p _ hpp hH1
    have cells : ∀ (a' : Array MapEntry) (c' : Nat), a'.size = es'.length → (∀ (s : Step m ⟨m.A, m.β, m.H.set id (.map kt vt es'), m.w.putObj p.b (.map a' c')⟩) (i : Nat) k t (e : MapEntry), es'[i]? = some (k, t) → a'[i]? = some e → e.key = k ∧ TRel m.A m.w t e.val ∧ e.born < c') →
      Step m ⟨m.A, m.β, m.H.set id (.map kt vt es'), m.w.putObj p.b (.map a' c')⟩ ∧ HRel ⟨m.A, m.β, m.H.set id (.map kt vt es'), m.w.putObj p.b (.map a' c')⟩ := by
     intro a' c' hs he
     refine upd_obj h2 hpp hH1 rfl rfl b1 rfl rfl (fun L e => by cases e) fun s => ⟨hbk.1, hbk.2.1, a', c', World.putObj_heap_same (Array.getElem?_eq_some_iff.1 b1).1, hs, fun i k t e g1 g2 => ?_⟩
     obtain ⟨q1, q2, q3⟩ := he s i k t e g1 g2
     exact ⟨q1, s.trel h2 q2, q3⟩
    rcases find_run (w0 := m.w) KK hks b2 b3 ⟨l, hl⟩ m.w with ⟨f1, f2⟩ | ⟨j, tt, e, f1, f2, f3, f4⟩
    ·rcases hp with ⟨j, t0, hj, _⟩ | ⟨_, rfl⟩
     ·exact absurd rfl (f2 j _ hj)
     obtain ⟨s, hm'⟩ := cells (a.push { key := kx, val := ac.eval v, born := clock }) (clock + 1) (by simp [b2]) (fun s i k t e g1 g2 => by
      by_cases hi : i < es.length
      ·rw [List.getElem?_append_left hi] at g1
       rw [Array.getElem?_push_lt (by omega), ← Array.getElem?_eq_getElem] at g2
       obtain ⟨q1, q2, q3⟩ := b3 i k t e g1 g2
       exact ⟨q1, q2, by omega⟩
      ·rw [List.getElem?_append_right (by omega)] at g1
       have : i = es.length := by
        have := (List.getElem?_eq_some_iff.1 g1).1
        simp at this; omega
       subst this
       simp at g1
       rw [← b2, Array.getElem?_push_size] at g2
       cases g2
       obtain ⟨rfl, rfl⟩ := g1
       exact ⟨rfl, hvv, by simp⟩)
     refine ⟨_, ?_, s, hm', by rw [h1]; exact hH'⟩
     have : (Instr.mapUpdate t (.map (some p.b)) kx (ac.eval v)).run P m.w = .ok () (m.w.putObj p.b (.map (a.push { key := kx, val := ac.eval v, born := clock }) (clock + 1))) := by
      unfold Instr.mapUpdate
      simp only [Sem.run_bind, underlying, run_program, Result.andThen_ok, (hT t i ht).map hk, Sem.run_pure, hg, KK.check m.w _ hl, f1, hset]
     simp [execOp, hq, hy', this]
    ·rcases hp with ⟨j2, t0, hj, huniq, rfl⟩ | ⟨hno, _⟩
     ·have e1 := huniq j tt f2
      subst e1
      have hjl := (List.getElem?_eq_some_iff.1 hj).1
      have hkey : e.key = kx := (b3 j _ _ e hj f3).1
      obtain ⟨s, hm'⟩ := cells (a.modify j fun e => { e with key := kx, val := ac.eval v }) clock (by simp [b2]) (fun s i k t e' g1 g2 => by
       by_cases hi : i = j
       ·subst hi
        rw [List.getElem?_set_self hjl] at g1
        cases g1
        rw [Array.getElem?_modify, if_pos rfl, f3] at g2
        cases g2
        exact ⟨rfl, hvv, (b3 i _ _ e hj f3).2.2⟩
       ·rw [List.getElem?_set_ne (by omega)] at g1
        rw [Array.getElem?_modify, if_neg (by omega)] at g2
        exact b3 i k t e' g1 g2)
      refine ⟨_, ?_, s, hm', by rw [h1]; exact hH'⟩
      have hkk : ((a[j]?).map (·.key)).getD kx = kx := by rw [f3]; simp [hkey]
      have : (Instr.mapUpdate t (.map (some p.b)) kx (ac.eval v)).run P m.w = .ok () (m.w.putObj p.b (.map (a.modify j fun e => { e with key := kx, val := ac.eval v }) clock)) := by
       unfold Instr.mapUpdate
       simp only [Sem.run_bind, underlying, run_program, Result.andThen_ok, (hT t i ht).map hk, Sem.run_pure, hg, KK.check m.w _ hl, f1, hkk, KK.stays m.w hl, hset]
      simp [execOp, hq, hy', this]
     ·exact absurd rfl (hno j _ f2)) k
end rules
theorem grow_still {m : M} (hm : HRel m) (arr : Array Value) (e : TypeId) (ts : List T) (hl : ts.length = arr.size) (h1 : ∀ (i : Nat) y, arr[i]? = some y → y.oneCell' = true) (h : ∀ (i : Nat) t y, ts[i]? = some t → arr[i]? = some y → TRel m.A m.w t y) :
  ∃ m' : M, m'.w = m.w.alloc (.cells arr e) ∧ Step m m' ∧ HRel m' ∧ m'.H = m.H ∧ SRel m' (.cp ts 0) (.pointer (some ⟨m.w.heap.size, 0, none⟩)) := by
 have hcell : ∀ o, (m.w.alloc (.cells arr e)).cell? ⟨m.w.heap.size, o, none⟩ = arr[o]? := fun o => World.cell?_alloc_new ..
 obtain ⟨s, hm'⟩ := grow hm (A' := fun b o => m.A b o ∨ (b = m.w.heap.size ∧ o < arr.size)) (βn := []) (Hn := []) (w' := m.w.alloc (.cells arr e)) rfl rfl rfl (by simp) (fun b hb => RowKit.Below.heap_alloc _ _ _ hb) (fun _ _ h => .inl h) (fun b o h => by
  rcases h with h | h
  ·exact .inl h
  ·exact .inr ⟨by omega, by simp; omega⟩) rfl (by simp) (by simp) (by simp) (by simp)
 refine ⟨⟨fun b o => m.A b o ∨ (b = m.w.heap.size ∧ o < arr.size), m.β, m.H, m.w.alloc (.cells arr e)⟩, rfl, by simpa using s, by simpa using hm', rfl, ?_⟩
 have s' : Step m ⟨fun b o => m.A b o ∨ (b = m.w.heap.size ∧ o < arr.size), m.β, m.H, m.w.alloc (.cells arr e)⟩ := by simpa using s
 refine .cp ts 0 m.w.heap.size 0 (fun j => (arr[j]?).getD undef) (fun j hj => ?_) (fun j hj => .inr ⟨rfl, by omega⟩) (fun j hj => ?_) (fun j c hc => ?_)
 ·rw [Array.getElem?_eq_getElem (by omega)]
  exact h1 j _ (Array.getElem?_eq_getElem (by omega))
 ·show (m.w.alloc (.cells arr e)).cell? _ = _
  rw [Nat.zero_add, hcell, Array.getElem?_eq_getElem (by omega)]; rfl
 ·have hj := (List.getElem?_eq_some_iff.1 hc).1
  rw [Array.getElem?_eq_getElem (by omega)]
  exact s'.trel hm (h j c _ hc (Array.getElem?_eq_getElem (by omega)))
theorem grow_still' {m : M} (hm : HRel m) {w' : World} (kw : Keeps m.w w') {b : Nat} (hb : m.w.heap.size ≤ b ∧ b < w'.heap.size) (ts : List T) (f : Nat → Value) (hcell : ∀ j, j < ts.length → w'.cell? ⟨b, j, none⟩ = some (f j)) (h1 : ∀ j, j < ts.length → (f j).oneCell' = true)
  (h : ∀ (i : Nat) t, ts[i]? = some t → TRel m.A m.w t (f i)) : ∃ m' : M, m'.w = w' ∧ Step m m' ∧ HRel m' ∧ m'.H = m.H ∧ SRel m' (.cp ts 0) (.pointer (some ⟨b, 0, none⟩)) := by
 obtain ⟨s, hm'⟩ := grow hm (A' := fun b' o => m.A b' o ∨ (b' = b ∧ o < ts.length)) (βn := []) (Hn := []) (w' := w') kw.os kw.tape kw.output kw.size kw.block (fun _ _ h => .inl h) (fun b' o h => by
  rcases h with h | h
  ·exact .inl h
  ·exact .inr (by omega)) rfl (by simp) (by simp) (by simp) (by simp)
 have s' : Step m ⟨fun b' o => m.A b' o ∨ (b' = b ∧ o < ts.length), m.β, m.H, w'⟩ := by simpa using s
 refine ⟨⟨fun b' o => m.A b' o ∨ (b' = b ∧ o < ts.length), m.β, m.H, w'⟩, rfl, s', by simpa using hm', rfl, ?_⟩
 exact .cp ts 0 b 0 f h1 (fun j hj => .inr ⟨rfl, by omega⟩) (fun j hj => by rw [Nat.zero_add]; exact hcell j hj) (fun j c hc => s'.trel hm (h j c hc))
section rules
variable {P : Program} {n : Nat} {env : Env} {H : Heap} {K : TK} {all : Array Oper} {rest : List Oper} {tab : Tab} {q : Bool}
variable {d : Nat} {ty : TypeId} {pos : String} {aft : Array Edge}
theorem TO.boxC {t : TypeId} {x : Operand} {v : SV} {ts : List T} (hd : Nat.ble (d + 1) n = true) (hx : env.val x = some v) (hv : v.solid = true) (hc : allT v.cells = some ts)
  (k : TO false P n all rest ((d, .cp ts 0) :: env) H K) : TO false P n all (⟨some d, .box t x, ty, pos, aft, none⟩ :: rest) env H K :=
 TO.eff hd (fun m ac h1 h2 h3 => by
  obtain ⟨g1, g0, g2⟩ := (h3.val hx).cells hv
  obtain ⟨l1, l2⟩ := allT_rel (m := m) hc
  obtain ⟨m', e1, e2, e3, e4, e5⟩ := grow_still h2 (ac.eval x).cells t ts (by omega) g0 (fun i u y hu hy => by
   obtain ⟨c, hc, hr⟩ := l2 i u hu
   exact hr y (g2 i c y hc hy))
  refine ⟨.pointer (some ⟨m.w.heap.size, 0, none⟩), m', ?_, e2, e3, by rw [e4, h1], e5⟩
  rw [e1]; simp [execOp, Instr.box, newVar, newRow]) k
theorem TO.allocC (hT : TabOk P tab) {t : TypeId} {i : TyI} {y : Operand} {v : SV} {ts : List T} {ty' : TypeId} {pos' : String} {aft' : Array Edge} (hd : Nat.ble (d + 1) n = true) (ht : tab.get t = some i) (hy : Env.val ((d, .any) :: env) y = some v) (hv : v.solid = true) (hc : allT v.cells = some ts)
  (hsz : i.size = ts.length) (hpos : 0 < ts.length)
  (k : TO false P n all rest ((d, .cp ts 0) :: env) H K) : TO false P n all (⟨some d, .alloc t, ty, pos, aft, none⟩ :: ⟨none, .store t (.tmp d) y, ty', pos', aft', none⟩ :: rest) env H K := by
 intro φ m a h1 h2 h3 h4
 obtain ⟨z, hz1, hz2, _, _⟩ := (hT t i ht).zero
 obtain ⟨zl, z0, _⟩ := zero_rel (A := m.A) (w := m.w) _ _ hz2
 have hzl : z.cells.size = i.size := by have := (hT t i ht).len; simp at zl; omega
 let pv : Value := .pointer (some ⟨m.w.heap.size, 0, none⟩)
 let a1 : Act := a.put (some d) pv
 have hE1 : ERel m n ((d, .any) :: env) a1.tmps := h3.put d (Nat.le_of_ble_eq_true hd) (.any _)
 obtain ⟨g1, g0, g2⟩ := (hE1.val hy).cells hv
 obtain ⟨l1, l2⟩ := allT_rel (m := m) hc
 let w1 := m.w.alloc (.cells z.cells t)
 have hrun1 : (execOp a.eval ⟨some d, .alloc t, ty, pos, aft, none⟩).run P m.w = .ok (.value pv) w1 := by
  simp [execOp, Instr.alloc, hz1, newVar, newRow, pv, w1]
 have hc1 : ∀ o, w1.cell? ⟨m.w.heap.size, o, none⟩ = z.cells[o]? := fun o => World.cell?_alloc_new ..
 have hlen : (a1.eval y).cells.toList.length = z.cells.size := by simp; omega
 have hsome : ∀ q, q < (a1.eval y).cells.toList.length → (w1.cell? ⟨m.w.heap.size, 0 + q, none⟩).isSome = true := fun q hq => by rw [Nat.zero_add, hc1, Array.getElem?_eq_getElem (by omega)]; rfl
 let w2 := w1.setCells m.w.heap.size 0 (a1.eval y).cells.toList
 have hrun2 : (execOp a1.eval ⟨none, .store t (.tmp d) y, ty', pos', aft', none⟩).run P w1 = .ok .skip w2 := by
  have hev : a1.eval (.tmp d) = pv := by
   have hlt : d < a.tmps.size := by rw [h3.1]; exact Nat.le_of_ble_eq_true hd
   simp [a1, Act.put, Act.eval, Array.getElem?_setIfInBounds, hlt]
  have hst := run_storeCells_cells (P := P) m.w.heap.size 0 (a1.eval y).cells.toList 0 w1 (fun q hq => hsome q hq) (fun q hq => World.frozen?_alloc_new ..) (fun u hu => by
   obtain ⟨q, hq⟩ := List.getElem?_of_mem hu
   exact g0 q u (by simpa using hq))
  have hne : (a1.eval y).cells.size = i.size := by omega
  simp [execOp, hev, pv, Instr.storeAt, Instr.sureAddr, storeVar, (hT t i ht).sizeOf, hne, hst, w2]
 obtain ⟨e1, e2, e3, e4, e5, e6⟩ := setCells_rest m.w.heap.size (a1.eval y).cells.toList 0 w1
 have kw : Keeps m.w w2 := ⟨e1, e2, e3, by show _ ≤ w2.heap.size; rw [e4]; simp [w1], fun b hb => by rw [e5 b (by omega)]; exact RowKit.Below.heap_alloc _ _ _ hb⟩
 obtain ⟨m', f1, f2, f3, f4, f5⟩ := grow_still' h2 kw (b := m.w.heap.size) ⟨Nat.le_refl _, by rw [e4]; simp [w1]⟩ ts (fun j => ((a1.eval y).cells[j]?).getD undef) (fun j hj => by
  have hj' : j < (a1.eval y).cells.toList.length := by simp; omega
  have := World.cell?_setCells_in m.w.heap.size (a1.eval y).cells.toList 0 w1 hsome j hj'
  rw [Nat.zero_add] at this
  rw [show w2.cell? _ = _ from this, Array.getElem?_eq_getElem (by simpa using hj')]
  simp) (fun j hj => by
  rw [Array.getElem?_eq_getElem (by omega)]
  exact g0 j _ (Array.getElem?_eq_getElem (by omega))) (fun j u hu => by
  have hj := (List.getElem?_eq_some_iff.1 hu).1
  obtain ⟨c, hcc, hr⟩ := l2 j u hu
  rw [Array.getElem?_eq_getElem (by omega)]
  exact hr _ (g2 j c _ hcc (Array.getElem?_eq_getElem (by omega))))
 refine wpListIn_plain rfl fun K' hK => ?_
 unfold Oper.wpIn
 refine ⟨fun _ _ => trivial, ?_⟩
 rw [semAt_val hrun1 (by intro d e; cases e)]
 simp only [Oper.uponIn]
 refine hK _ _ ?_
 refine wpListIn_plain rfl fun K2 hK2 => ?_
 unfold Oper.wpIn
 refine ⟨fun _ _ => trivial, ?_⟩
 rw [show a.put (some d) pv = a1 from rfl, semAt_val hrun2 (by intro d e; cases e)]
 simp only [Oper.uponIn]
 refine hK2 _ _ ?_
 have hE : ERel m' n ((d, .cp ts 0) :: env) a1.tmps := (h3.step h2 f2).put d (Nat.le_of_ble_eq_true hd) f5
 have := k φ m' a1 (by rw [f4, h1]) f3 hE (by simpa [a1, Act.put] using h4.step h2 f2)
 rw [← f1]
 exact TO.step' f2 this
theorem RetK.at (k : Nat) {rs : List ResultVar} {N : Nat} {R : Res → Heap → Prop} {vs : List SV} {v : SV} (hr : resAll tab env H rs = some vs) (hl : Le (pack vs) v) (hN : N ≤ k) (hk : H.length = k) (hu : v.under k = true)
  (hb : blksUnder k H = true) (hR : R (.ret v) H) : RetK tab rs N R .ret env H := by
 have ht : H.take k = H := List.take_of_length_le (by omega)
 exact ⟨vs, v, k, hr, hl, hN, by omega, hu, by rw [ht]; exact hb, by rw [ht]; exact hR⟩
theorem RetK.atN (k : Nat) {rs : List ResultVar} {N : Nat} {R : Res → Heap → Prop} {vs : List SV} {v : SV} (hr : resAll tab env H rs = some vs) (hl : Le (pack vs) v) (hN : N ≤ k) (hk : H.length = k) (hu : v.under k = true)
  (hb : blksUnder k H = true) (hR : R (.ret v) H) : RetK tab rs N R .normal env H := RetK.at k hr hl hN hk hu hb hR
theorem RetK.atP (k : Nat) {rs : List ResultVar} {N : Nat} {R : Res → Heap → Prop} {v : SV} (hN : N ≤ k) (hk : H.length = k) (hu : v.under k = true)
  (hb : blksUnder k H = true) (hR : R (.panic v) H) : RetK tab rs N R (.panic v) env H := by
 have ht : H.take k = H := List.take_of_length_le (by omega)
 exact ⟨v, k, Le.refl _, hN, by omega, hu, by rw [ht]; exact hb, by rw [ht]; exact hR⟩
end rules
end Go.TL
