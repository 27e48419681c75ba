import Derived.Test.YtonjiabmcbdhdaaGreatPk2
set_option linter.unusedSimpArgs false
set_option linter.unusedVariables false
namespace Go.TL
open Go
theorem cell_of_block {w w' : World} {b o : Nat} (h : w'.heap[b]? = w.heap[b]?) : w'.cell? ⟨b, o, none⟩ = w.cell? ⟨b, o, none⟩ := by simp [World.cell?, h]
theorem frozen_of_block {w w' : World} {b o : Nat} (h : w'.heap[b]? = w.heap[b]?) : w'.frozen? ⟨b, o, none⟩ = w.frozen? ⟨b, o, none⟩ := by simp [World.frozen?, h]
theorem BlkOk.obj_place {m : M} {p : Place} {k : Blk} (h : BlkOk m p k) (hk : k.obj = true) : p.lo = 0 ∧ p.hi = 1 ∧ ∀ o, m.w.cell? ⟨p.b, o, none⟩ = none := by
 cases k <;> simp [Blk.obj] at hk
 ·obtain ⟨h1, h2, a, c, h3, _⟩ := h
  exact ⟨h1, h2, fun o => by simp [World.cell?, h3]⟩
 ·obtain ⟨h1, h2, L, h3, _⟩ := h
  exact ⟨h1, h2, fun o => by simp [World.cell?, h3]⟩
theorem BlkOk.step {m m' : M} (hm : HRel m) (s : Step m m') {p : Place} {k : Blk} (h : BlkOk m p k) (hk : ∀ o, p.lo ≤ o → o < p.hi → m'.w.cell? ⟨p.b, o, none⟩ = m.w.cell? ⟨p.b, o, none⟩ ∧ ((m.w.cell? ⟨p.b, o, none⟩).isSome = true → m'.w.frozen? ⟨p.b, o, none⟩ = m.w.frozen? ⟨p.b, o, none⟩))
  (hmap : k.obj = true → m'.w.heap[p.b]? = m.w.heap[p.b]?) : BlkOk m' p k := by
 cases k with
 | cells cs =>
   obtain ⟨h1, h2, h3⟩ := h
   refine ⟨h1, fun o ho ho' => ?_, fun j c hc => ?_⟩
   ·have := h2 o ho ho'
    unfold Free at this ⊢
    rw [(hk o ho ho').1, (hk o ho ho').2 this.1]; exact this
   ·obtain ⟨y, hy1, hy0, hy2⟩ := h3 j c hc
    have hj := (List.getElem?_eq_some_iff.1 hc).1
    exact ⟨y, by rw [(hk (p.lo + j) (by omega) (by omega)).1]; exact hy1, hy0, s.srel hm hy2⟩
 | tail n =>
   intro o ho ho'
   have := h o ho ho'
   unfold Free at this ⊢
   rw [(hk o ho ho').1, (hk o ho ho').2 this.1]; exact this
 | row e cs =>
   obtain ⟨h1, h2, h3⟩ := h
   refine ⟨⟨h1.1, h1.2.1, fun h => s.shape _ _ (h1.2.2 h)⟩, fun o ho ho' => ?_, fun j c hc => ?_⟩
   ·have := h2 o ho ho'
    unfold Free at this ⊢
    rw [(hk o ho ho').1, (hk o ho ho').2 this.1]; exact this
   ·obtain ⟨y, hy1, hy0, hy2⟩ := h3 j c hc
    have hj := (List.getElem?_eq_some_iff.1 hc).1
    exact ⟨y, by rw [(hk (p.lo + j) (by omega) (by omega)).1]; exact hy1, hy0, s.trel hm hy2⟩
 | map kt vt es =>
   obtain ⟨h1, h2, a, clock, h3, h4, h5⟩ := h
   refine ⟨h1, h2, a, clock, ?_, h4, fun i k t e he ha => ?_⟩
   ·rw [hmap rfl]; exact h3
   ·obtain ⟨g1, g2, g3⟩ := h5 i k t e he ha
    exact ⟨g1, s.trel hm g2, g3⟩
 | loop fn st pe n env ps aas bo =>
   obtain ⟨h1, h2, L, h3, h4, h5⟩ := h
   exact ⟨h1, h2, L, by rw [hmap rfl]; exact h3, h4, h5.step hm s⟩
 | dead => trivial
theorem idStep_same {h h' : Option Blk} {p : Place} (e : h' = h) : IdStep h h' p p := e ▸ IdStep.refl h p
theorem grow {m : M} (hm : HRel m) {A' : Foot} {βn : List Place} {Hn : Heap} {w' : World} (hos : w'.os = m.w.os) (htp : w'.tape = m.w.tape) (hou : w'.output = m.w.output) (hsz : m.w.heap.size ≤ w'.heap.size)
  (hkeep : ∀ b, b < m.w.heap.size → w'.heap[b]? = m.w.heap[b]?) (hA : ∀ b o, m.A b o → A' b o) (hA' : ∀ b o, A' b o → m.A b o ∨ (m.w.heap.size ≤ b ∧ b < w'.heap.size)) (hlen : βn.length = Hn.length)
  (hnew : ∀ (i : Nat) p k, βn[i]? = some p → Hn[i]? = some k → k.live = true → (m.w.heap.size ≤ p.b ∧ p.b < w'.heap.size) ∨ p.hi ≤ p.lo)
  (hap : ∀ (i j : Nat) p q, i ≠ j → βn[i]? = some p → βn[j]? = some q → p.apart q)
  (hst : ∀ b o, A' b o → ¬ m.A b o → ∀ (i : Nat) p k, βn[i]? = some p → Hn[i]? = some k → k.live = true → ¬ (p.b = b ∧ p.lo ≤ o ∧ o < p.hi))
  (hblk : Step m ⟨A', m.β ++ βn, m.H ++ Hn, w'⟩ → ∀ (i : Nat) p k, βn[i]? = some p → Hn[i]? = some k → BlkOk ⟨A', m.β ++ βn, m.H ++ Hn, w'⟩ p k) :
  Step m ⟨A', m.β ++ βn, m.H ++ Hn, w'⟩ ∧ HRel ⟨A', m.β ++ βn, m.H ++ Hn, w'⟩ := by
 have split : ∀ (i : Nat) p k, (m.β ++ βn)[i]? = some p → (m.H ++ Hn)[i]? = some k → (m.β[i]? = some p ∧ m.H[i]? = some k) ∨ (m.β.length ≤ i ∧ βn[i - m.β.length]? = some p ∧ Hn[i - m.β.length]? = some k) := by
  intro i p k h1 h2
  by_cases hi : i < m.β.length
  ·rw [List.getElem?_append_left hi] at h1
   rw [List.getElem?_append_left (by rw [← hm.len]; exact hi)] at h2
   exact .inl ⟨h1, h2⟩
  ·rw [List.getElem?_append_right (by omega)] at h1
   rw [List.getElem?_append_right (by rw [← hm.len]; omega), ← hm.len] at h2
   exact .inr ⟨by omega, h1, h2⟩
 have s : Step m ⟨A', m.β ++ βn, m.H ++ Hn, w'⟩ := by
  refine ⟨hos, htp, hou, hsz, hA, fun b o h => ?_, fun b o h => ?_, fun b o hb _ => cell_of_block (hkeep b hb), fun b o hb _ _ => frozen_of_block (hkeep b hb), fun b hb _ => hkeep b hb, fun b sh hs => (by rw [shape_of_block (hkeep b (shape_lt hs))]; exact hs), fun b L hL => ⟨L, by show w'.heap[b]? = _; rw [hkeep b (Array.getElem?_eq_some_iff.1 hL).1]; exact hL⟩, fun b o hb h => ?_, fun i p hp => ?_⟩
  ·rcases hA' b o h with h | h
   ·exact .inl h
   ·exact .inr (.inr h.1)
  ·obtain ⟨i, p, k, h1, h2, h3, h4, h5, h6⟩ := h
   rcases split i p k h1 h2 with ⟨g1, g2⟩ | ⟨g0, g1, g2⟩
   ·exact .inl ⟨i, p, k, g1, g2, h3, h4, h5, h6⟩
   ·rcases hnew _ p k g1 g2 h3 with g | g
    ·exact .inr (by rw [← h4]; exact g.1)
    ·omega
  ·rw [cell_of_block (hkeep b hb)]; exact h
  ·have hi := (List.getElem?_eq_some_iff.1 hp).1
   refine ⟨p, by rw [List.getElem?_append_left hi]; exact hp, idStep_same ?_⟩
   show (m.H ++ Hn)[i]? = m.H[i]?
   rw [List.getElem?_append_left (by rw [← hm.len]; exact hi)]
 refine ⟨s, by simp [hm.len, hlen], fun i p k h1 h2 => ?_, fun i j p q k l hij h1 h2 h3 h4 hk hl => ?_, fun b o h => ?_, fun b o h => ?_, fun i p k h1 h2 hk hlt => ?_⟩
 ·rcases split i p k h1 h2 with ⟨g1, g2⟩ | ⟨g0, g1, g2⟩
  ·cases hlv : k.live with
   | true => exact (hm.blk i p k g1 g2).step hm s (fun o h1 h2 => ⟨cell_of_block (hkeep _ (hm.inO i p k g1 g2 hlv (by omega))), fun _ => frozen_of_block (hkeep _ (hm.inO i p k g1 g2 hlv (by omega)))⟩) (fun e => hkeep _ (hm.inO i p k g1 g2 hlv (by obtain ⟨e1, e2, _⟩ := (hm.blk i p _ g1 g2).obj_place e; omega)))
   | false => cases k <;> simp [Blk.live] at hlv; trivial
  ·exact hblk s _ p k g1 g2
 ·rcases split i p k h1 h2 with ⟨g1, g2⟩ | ⟨g0, g1, g2⟩ <;> rcases split j q l h3 h4 with ⟨g3, g4⟩ | ⟨g0', g3, g4⟩
  ·exact hm.apart i j p q k l hij g1 g2 g3 g4 hk hl
  ·intro e
   rcases hnew _ q l g3 g4 hl with g | g
   ·by_cases hlt : p.lo < p.hi
    ·have := hm.inO i p k g1 g2 hk hlt; omega
    ·omega
   ·omega
  ·intro e
   rcases hnew _ p k g1 g2 hk with g | g
   ·by_cases hlt : q.lo < q.hi
    ·have := hm.inO j q l g3 g4 hl hlt; omega
    ·omega
   ·omega
  ·exact hap _ _ p q (by omega) g1 g3
 ·rintro ⟨i, p, k, h1, h2, h3, h4, h5, h6⟩
  rcases split i p k h1 h2 with ⟨g1, g2⟩ | ⟨g0, g1, g2⟩
  ·rcases hA' b o h with h | h
   ·exact hm.still b o h ⟨i, p, k, g1, g2, h3, h4, h5, h6⟩
   ·have := hm.inO i p k g1 g2 h3 (by omega); omega
  ·by_cases ha : m.A b o
   ·rcases hnew _ p k g1 g2 h3 with g | g
    ·have := hm.inA b o ha; omega
    ·omega
   ·exact hst b o h ha _ p k g1 g2 h3 ⟨h4, h5, h6⟩
 ·rcases hA' b o h with h | h
  ·exact Nat.lt_of_lt_of_le (hm.inA b o h) hsz
  ·exact h.2
 ·rcases split i p k h1 h2 with ⟨g1, g2⟩ | ⟨g0, g1, g2⟩
  ·exact Nat.lt_of_lt_of_le (hm.inO i p k g1 g2 hk hlt) hsz
  ·rcases hnew _ p k g1 g2 hk with g | g
   ·exact g.2
   ·omega
theorem grow_cells {m : M} (hm : HRel m) (cs : List SV) (ys : Array Value) (t : TypeId) (hl : cs.length ≤ ys.size) (h1 : ∀ (i : Nat) y, ys[i]? = some y → y.oneCell' = true) (h : ∀ (i : Nat) c y, cs[i]? = some c → ys[i]? = some y → SRel m c y) :
  let m' : M := ⟨m.A, m.β ++ [⟨m.w.heap.size, 0, ys.size⟩], m.H ++ [.cells cs], m.w.alloc (.cells ys t)⟩
  Step m m' ∧ HRel m' := by
 intro m'
 have hcell : ∀ o, (m.w.alloc (.cells ys t)).cell? ⟨m.w.heap.size, o, none⟩ = ys[o]? := fun o => World.cell?_alloc_new ..
 refine grow hm (A' := m.A) (βn := [⟨m.w.heap.size, 0, ys.size⟩]) (Hn := [.cells cs]) rfl rfl rfl (by simp) (fun b hb => RowKit.Below.heap_alloc _ _ _ hb) (fun _ _ h => h) (fun _ _ h => .inl h) rfl ?_ ?_ ?_ ?_
 ·intro i p k h1 h2 h3
  cases i with
  | zero => simp at h1; subst h1; left; simp
  | succ i => simp at h1
 ·intro i j p q hij h1 h2
  cases i <;> cases j <;> simp at h1 h2 hij
 ·intro b o h1 h2; exact absurd h1 h2
 ·intro s i p k h1 h2
  cases i with
  | zero =>
    simp at h1 h2
    subst h1; subst h2
    refine ⟨by simpa using hl, fun o _ ho => ?_, fun j c hc => ?_⟩
    ·refine ⟨by simp [hcell] at ho ⊢; omega, ?_⟩
     exact World.frozen?_alloc_new ..
    ·have hj := (List.getElem?_eq_some_iff.1 hc).1
     have hy : ys[j]? = some (ys[j]'(by omega)) := Array.getElem?_eq_getElem (by omega)
     exact ⟨_, by simp [hcell, hy], h1 _ _ hy, s.srel hm (h j c _ hc hy)⟩
  | succ i => simp at h1
section rules
variable {P : Program} {n : Nat} {env : Env} {H : Heap} {K : TK} {all : Array Oper} {rest : List Oper} {tab : Tab}
variable {d : Nat} {ty : TypeId} {pos : String} {aft : Array Edge}
theorem TO.eff {op : Op} {v : SV} {H' : Heap} (hd : Nat.ble (d + 1) n = true)
  (h : ∀ (m : M) (a : Act), m.H = H → HRel m → ERel m n env a.tmps → ∃ x m', (execOp a.eval ⟨some d, op, ty, pos, aft, none⟩).run P m.w = .ok (.value x) m'.w ∧ Step m m' ∧ HRel m' ∧ m'.H = H' ∧ SRel m' v x)
  (k : TO false P n all rest ((d, v) :: env) H' K) : TO false P n all (⟨some d, op, ty, pos, aft, none⟩ :: rest) env H K := by
 intro φ m a h1 h2 h3 h4
 obtain ⟨x, m', hx, s, hm', hH', hr⟩ := h m a h1 h2 h3
 refine wpListIn_plain rfl fun K' hK => ?_
 unfold Oper.wpIn
 refine ⟨fun _ _ => trivial, ?_⟩
 rw [semAt_val hx (by intro d e; cases e)]
 simp only [Oper.uponIn]
 exact hK _ _ (TO.step' s (k φ m' _ hH' hm' ((h3.step h2 s).put d (Nat.le_of_ble_eq_true hd) hr) (by simpa [Act.put] using h4.step h2 s)))
theorem TO.eff0 {op : Op} {H' : Heap}
  (h : ∀ (m : M) (a : Act), m.H = H → HRel m → ERel m n env a.tmps → ∃ m', (execOp a.eval ⟨none, op, ty, pos, aft, none⟩).run P m.w = .ok .skip m'.w ∧ Step m m' ∧ HRel m' ∧ m'.H = H')
  (k : TO false P n all rest env H' K) : TO false P n all (⟨none, op, ty, pos, aft, none⟩ :: rest) env H K := by
 intro φ m a h1 h2 h3 h4
 obtain ⟨m', hx, s, hm', hH'⟩ := h m a h1 h2 h3
 refine wpListIn_plain rfl fun K' hK => ?_
 unfold Oper.wpIn
 refine ⟨fun _ _ => trivial, ?_⟩
 rw [semAt_val hx (by intro d e; cases e)]
 simp only [Oper.uponIn]
 exact hK _ _ (TO.step' s (k φ m' _ hH' hm' (by simpa [Act.put] using h3.step h2 s) (by simpa [Act.put] using h4.step h2 s)))
def SV.solid : SV → Bool
 | .any | .tup _ => false
 | .t (.v x) => x.oneCell'
 | _ => true
theorem SRel.cells {m : M} {v : SV} {x : Value} (h : SRel m v x) (hv : v.solid = true) : (v.cells.length = x.cells.size) ∧ (∀ (i : Nat) y, x.cells[i]? = some y → y.oneCell' = true) ∧ ∀ (i : Nat) c y, v.cells[i]? = some c → x.cells[i]? = some y → SRel m c y := by
 have one : ∀ (v : SV) (x : Value), SRel m v x → ∀ (i : Nat) c y, [v][i]? = some c → #[x][i]? = some y → SRel m c y := by
  intro v x h i c y hc hy
  cases i with
  | zero => simp at hc hy; subst hc; subst hy; exact h
  | succ i => simp at hc
 have oc : ∀ (x : Value), x.oneCell' = true → ∀ (i : Nat) y, #[x][i]? = some y → y.oneCell' = true := by
  intro x h i y hy
  cases i with
  | zero => simp at hy; subst hy; exact h
  | succ i => simp at hy
 cases h with
 | t t x h =>
   cases h with
   | ag cs arr hs h1 hr =>
     refine ⟨by simp [SV.cells, Value.cells, hs], h1, fun i c y hc hy => ?_⟩
     simp only [SV.cells, List.getElem?_map] at hc
     cases hq : cs[i]? with
     | none => rw [hq] at hc; cases hc
     | some u => rw [hq] at hc; cases hc; exact .t _ _ (hr _ _ _ hq hy)
   | v x => cases x <;> first | (simp [SV.solid, Value.oneCell'] at hv; done) | exact ⟨rfl, oc _ rfl, one _ _ (.t _ _ (.v _))⟩
   | nil sz => exact ⟨rfl, oc _ rfl, one _ _ (.t _ _ (.nil sz))⟩
   | empty sz a => exact ⟨rfl, oc _ rfl, one _ _ (.t _ _ (.empty sz a))⟩
   | sl sz es b off cap f h1 h2 h3 h4 h5 h6 => exact ⟨rfl, oc _ rfl, one _ _ (.t _ _ (.sl sz es b off cap f h1 h2 h3 h4 h5 h6))⟩
 | ag cs arr hs h1 hr => exact ⟨hs.symm, h1, hr⟩
 | tup vs => simp [SV.solid] at hv
 | any => simp [SV.solid] at hv
 | sl sz es id x p h hp ho =>
   have hx := TRel.slice_inv h
   obtain ⟨ad, cap, rfl⟩ := hx
   exact ⟨rfl, oc _ rfl, one _ _ (.sl sz es id _ p h hp ho)⟩
 | ms sz id off len cap p hp hn hc hh => exact ⟨rfl, oc _ rfl, one _ _ (.ms sz id off len cap p hp hn hc hh)⟩
 | cp cs off b o f h1 hA hw h => exact ⟨rfl, oc _ rfl, one _ _ (.cp cs off b o f h1 hA hw h)⟩
 | ref id off p hp hn => exact ⟨rfl, oc _ rfl, one _ _ (.ref id off p hp hn)⟩
 | tref e n id off p hp hn h0 hs => exact ⟨rfl, oc _ rfl, one _ _ (.tref e n id off p hp hn h0 hs)⟩
 | rw id len x p hp hx ho => obtain ⟨ad, n, c, rfl⟩ := hx; exact ⟨rfl, oc _ rfl, one _ _ (.rw id len _ p hp ⟨ad, n, c, rfl⟩ ho)⟩
 | mp id p hp hn => exact ⟨rfl, oc _ rfl, one _ _ (.mp id p hp hn)⟩
 | yl id p hp hn => exact ⟨rfl, oc _ rfl, one _ _ (.yl id p hp hn)⟩
 | fn f cs arr hs h => exact ⟨rfl, oc _ rfl, one _ _ (.fn f cs arr hs h)⟩
 | bnd f cs arr hs h => exact ⟨rfl, oc _ rfl, one _ _ (.bnd f cs arr hs h)⟩
 | ifc ty s x h => exact ⟨rfl, oc _ rfl, one _ _ (.ifc ty s x h)⟩
theorem TO.box {t : TypeId} {x : Operand} {v : SV} {cs : List SV} (hd : Nat.ble (d + 1) n = true) (hx : env.val x = some v) (hv : v.solid = true) (hc : v.cells = cs)
  (k : TO false P n all rest ((d, .ref H.length 0) :: env) (H ++ [.cells cs]) K) : TO false P n all (⟨some d, .box t x, ty, pos, aft, none⟩ :: rest) env H K :=
 TO.eff hd (fun m ac h1 h2 h3 => by
  obtain ⟨g1, g0, g2⟩ := (h3.val hx).cells hv
  rw [hc] at g1 g2
  obtain ⟨s, hm'⟩ := grow_cells h2 cs (ac.eval x).cells t (by omega) g0 g2
  refine ⟨.pointer (some ⟨m.w.heap.size, 0, none⟩), _, ?_, s, hm', by rw [h1], ?_⟩
  ·simp [execOp, Instr.box, newVar, newRow]
  ·rw [← h1]
   exact SRel.ref (m := ⟨m.A, m.β ++ [⟨m.w.heap.size, 0, (ac.eval x).cells.size⟩], m.H ++ [.cells cs], m.w.alloc (.cells (ac.eval x).cells t)⟩) m.H.length 0 ⟨m.w.heap.size, 0, (ac.eval x).cells.size⟩
    (by simp [h2.len]) (by intro q; simp [tlOf])) k
theorem zero_rel {A : Foot} {w : World} : ∀ (ts : List T) (vs : List Value), fitsAll ts vs = true → ts.length = vs.length ∧ (∀ (i : Nat) y, vs[i]? = some y → y.oneCell' = true) ∧ ∀ (i : Nat) c y, ts[i]? = some c → vs[i]? = some y → TRel A w c y
 | [], [], _ => by simp
 | [], v :: vs, h => by simp [fitsAll] at h
 | t :: ts, [], h => by simp [fitsAll] at h
 | t :: ts, v :: vs, h => by
   simp only [fitsAll, Bool.and_eq_true] at h
   obtain ⟨g1, g0, g2⟩ := zero_rel ts vs h.2
   have h0 := h.1
   refine ⟨by simp [g1], fun i y hy => ?_, fun i c y hc hy => ?_⟩
   ·cases i with
    | zero =>
      simp at hy; subst hy
      unfold T.fits at h0
      split at h0 <;> first | (cases h0; done) | rfl
    | succ i => exact g0 i y (by simpa using hy)
   cases i with
   | zero =>
     simp at hc hy; subst hc; subst hy
     unfold T.fits at h0
     split at h0 <;> first
      | (cases h0; done)
      | (simp at h0; obtain ⟨rfl, rfl⟩ := h0; exact .v _)
      | (simp at h0; subst h0; exact .v _)
      | exact .nil _
      | exact .v _
      | (simp at h0; rename_i a b; cases a; cases b; simp at h0; subst h0; exact .v _)
   | succ i => exact g2 i c y (by simpa using hc) (by simpa using hy)
theorem Fit.zero {t : TypeId} {i : TyI} (h : Fit P t i) : ∃ z, (∀ w, (zeroValue t).run P w = .ok z w) ∧ fitsAll i.zero z.cells.toList = true ∧ (i.k.agg = true → ∃ cs, z = .agg cs) ∧ (i.k.agg = false → z.oneCell' = true) := by
 obtain ⟨dd, ti, z, h1, h2, h3, h4, h5, h6, h7, h8, h9⟩ := h.ex
 exact ⟨z, fun w => by simp [zeroValue, typeInfo, h2, h6], h7, h8, h9⟩
theorem TO.alloc (hT : TabOk P tab) {t : TypeId} {i : TyI} {cs : List SV} (hd : Nat.ble (d + 1) n = true) (ht : tab.get t = some i) (hc : i.zero.map SV.t = cs)
  (k : TO false P n all rest ((d, .ref H.length 0) :: env) (H ++ [.cells cs]) K) : TO false P n all (⟨some d, .alloc t, ty, pos, aft, none⟩ :: rest) env H K :=
 TO.eff hd (fun m ac h1 h2 h3 => by
  obtain ⟨z, hz1, hz2, _, _⟩ := (hT t i ht).zero
  obtain ⟨g1, g0, g2⟩ := zero_rel (A := m.A) (w := m.w) _ _ hz2
  obtain ⟨s, hm'⟩ := grow_cells h2 cs z.cells t (by rw [← hc]; simp [g1]) (fun j y hy => g0 j y (by simpa using hy)) (fun j c y hj hy => by
   rw [← hc, List.getElem?_map] at hj
   cases hq : i.zero[j]? with
   | none => rw [hq] at hj; cases hj
   | some u => rw [hq] at hj; cases hj; exact .t _ _ (g2 j u y hq (by simpa using hy)))
  refine ⟨.pointer (some ⟨m.w.heap.size, 0, none⟩), _, ?_, s, hm', by rw [h1], ?_⟩
  ·simp [execOp, Instr.alloc, hz1, newVar, newRow]
  ·rw [← h1]
   exact SRel.ref (m := ⟨m.A, m.β ++ [⟨m.w.heap.size, 0, z.cells.size⟩], m.H ++ [.cells cs], m.w.alloc (.cells z.cells t)⟩) m.H.length 0 ⟨m.w.heap.size, 0, z.cells.size⟩
    (by simp [h2.len]) (by intro q; simp [tlOf])) k
theorem upd {m : M} (hm : HRel m) {id : Nat} {p : Place} {cs cs' : List SV} {w' : World} (hp : m.β[id]? = some p) (hH : m.H[id]? = some (.cells cs)) (hos : w'.os = m.w.os) (htp : w'.tape = m.w.tape) (hou : w'.output = m.w.output)
  (hsz : w'.heap.size = m.w.heap.size) (hoth : ∀ b, b ≠ p.b → w'.heap[b]? = m.w.heap[b]?) (hcell : ∀ o, ¬ (p.lo ≤ o ∧ o < p.hi) → w'.cell? ⟨p.b, o, none⟩ = m.w.cell? ⟨p.b, o, none⟩)
  (hfr : ∀ o, w'.frozen? ⟨p.b, o, none⟩ = m.w.frozen? ⟨p.b, o, none⟩) (hsm : ∀ o, (w'.cell? ⟨p.b, o, none⟩).isSome = (m.w.cell? ⟨p.b, o, none⟩).isSome) (hshp : ∀ s, m.w.shape? p.b = some s → w'.shape? p.b = some s) (hl : p.lo + cs'.length ≤ p.hi) (hlt : p.lo < p.hi)
  (hnew : ∀ (j : Nat) c, cs'[j]? = some c → ∃ y, w'.cell? ⟨p.b, p.lo + j, none⟩ = some y ∧ y.oneCell' = true ∧ SRel m c y) :
  Step m ⟨m.A, m.β, m.H.set id (.cells cs'), w'⟩ ∧ HRel ⟨m.A, m.β, m.H.set id (.cells cs'), w'⟩ := by
 have hid := (List.getElem?_eq_some_iff.1 hH).1
 have own : ∀ b o, Own ⟨m.A, m.β, m.H.set id (.cells cs'), w'⟩ b o ↔ Own m b o := by
  intro b o
  constructor
  ·rintro ⟨i, q, k, h1, h2, h3, h4⟩
   by_cases hi : i = id
   ·subst hi
    have h1' : m.β[i]? = some q := h1
    have : q = p := by rw [hp] at h1'; cases h1'; rfl
    subst this
    exact ⟨i, q, _, hp, hH, rfl, h4⟩
   ·have h2' : (m.H.set id (.cells cs'))[i]? = some k := h2
    rw [List.getElem?_set_ne (by omega)] at h2'
    exact ⟨i, q, k, h1, h2', h3, h4⟩
  ·rintro ⟨i, q, k, h1, h2, h3, h4⟩
   by_cases hi : i = id
   ·subst hi
    refine ⟨i, q, .cells cs', h1, ?_, rfl, h4⟩
    show (m.H.set i (.cells cs'))[i]? = _
    rw [List.getElem?_set_self hid]
   ·refine ⟨i, q, k, h1, ?_, h3, h4⟩
    show (m.H.set id (.cells cs'))[i]? = _
    rw [List.getElem?_set_ne (by omega)]; exact h2
 have inp : ∀ o, p.lo ≤ o → o < p.hi → Own m p.b o := fun o h1 h2 => ⟨id, p, _, hp, hH, rfl, rfl, h1, h2⟩
 have cellA : ∀ b o, ¬ Own m b o → w'.cell? ⟨b, o, none⟩ = m.w.cell? ⟨b, o, none⟩ := by
  intro b o hn
  by_cases hb : b = p.b
  ·subst hb
   exact hcell o fun h => hn (inp o h.1 h.2)
  ·exact cell_of_block (hoth b hb)
 have s : Step m ⟨m.A, m.β, m.H.set id (.cells cs'), w'⟩ := by
  refine ⟨hos, htp, hou, by rw [hsz]; exact Nat.le_refl _, fun _ _ h => h, fun _ _ h => .inl h, fun b o h => .inl ((own b o).1 h), fun b o _ hn => cellA b o hn, fun b o _ hn _ => ?_, fun b hb hn => ?_, fun b sh hs => ?_, fun b L hL => ?_, fun b o hb h => ?_, fun i q hq => ⟨q, hq, ?_⟩⟩
  ·by_cases hb : b = p.b
   ·subst hb; exact hfr o
   ·exact frozen_of_block (hoth b hb)
  ·by_cases hb : b = p.b
   ·exact absurd (inp p.lo (Nat.le_refl _) hlt) (by rw [← hb]; exact hn p.lo)
   ·exact hoth b hb
  ·by_cases hb' : b = p.b
   ·subst hb'; exact hshp sh hs
   ·show w'.shape? b = _
    rw [shape_of_block (hoth b hb')]; exact hs
  ·by_cases hb' : b = p.b
   ·subst hb'
    have := ((hm.blk id p _ hp hH).2.1 p.lo (Nat.le_refl _) hlt).1
    simp [World.cell?, hL] at this
   ·exact ⟨L, by show w'.heap[b]? = _; rw [hoth b hb']; exact hL⟩
  ·by_cases hb' : b = p.b
   ·subst hb'; rw [← hsm] at h; exact h
   ·rw [cell_of_block (hoth b hb')]; exact h
  ·by_cases hi : i = id
   ·subst hi
    show IdStep m.H[i]? (m.H.set i (.cells cs'))[i]? q q
    rw [List.getElem?_set_self hid, hH]
    exact ⟨rfl, by intro n h; cases h⟩
   ·refine idStep_same ?_
    show (m.H.set id (.cells cs'))[i]? = m.H[i]?
    rw [List.getElem?_set_ne (by omega)]
 have nomap : ∀ a clock, m.w.heap[p.b]? ≠ some (.map a clock) := by
  intro a clock e
  have := ((hm.blk id p _ hp hH).2.1 p.lo (Nat.le_refl _) hlt).1
  simp [World.cell?, e] at this
 refine ⟨s, by simpa using hm.len, fun i q k h1 h2 => ?_, fun i j q r k l hij h1 h2 h3 h4 hk hl' => ?_, fun b o h hn => hm.still b o h ((own b o).1 hn), fun b o h => by rw [show (⟨m.A, m.β, m.H.set id (.cells cs'), w'⟩ : M).w.heap.size = m.w.heap.size from hsz]; exact hm.inA b o h, fun i q k h1 h2 hk hq => ?_⟩
 ·by_cases hi : i = id
  ·subst hi
   have h1' : m.β[i]? = some q := h1
   have : q = p := by rw [hp] at h1'; cases h1'; rfl
   subst this
   have h2' : (m.H.set i (.cells cs'))[i]? = some k := h2
   rw [List.getElem?_set_self hid] at h2'
   cases h2'
   refine ⟨hl, fun o ho ho' => ?_, fun j c hc => ?_⟩
   ·have := (hm.blk i q _ hp hH).2.1 o ho ho'
    exact ⟨by rw [show (World.cell? _ _) = w'.cell? ⟨q.b, o, none⟩ from rfl, hsm]; exact this.1, by rw [show (World.frozen? _ _) = w'.frozen? ⟨q.b, o, none⟩ from rfl, hfr]; exact this.2⟩
   ·obtain ⟨y, hy1, hy0, hy2⟩ := hnew j c hc
    exact ⟨y, hy1, hy0, s.srel hm hy2⟩
  ·have h2' : (m.H.set id (.cells cs'))[i]? = some k := h2
   rw [List.getElem?_set_ne (by omega)] at h2'
   have hb := hm.blk i q k h1 h2'
   cases hlv : k.live with
   | false => cases k <;> simp [Blk.live] at hlv; trivial
   | true =>
     have hap := hm.apart i id q p k _ hi h1 h2' hp hH hlv rfl
     refine hb.step hm s (fun o ho ho' => ?_) (fun e => ?_)
     ·by_cases hqb : q.b = p.b
      ·have := hap hqb
       rw [hqb]
       exact ⟨hcell o (by omega), fun _ => hfr o⟩
      ·exact ⟨cell_of_block (hoth _ hqb), fun _ => frozen_of_block (hoth _ hqb)⟩
     ·by_cases hqb : q.b = p.b
      ·exfalso
       have h5 := (hb.obj_place e).2.2 p.lo
       rw [hqb] at h5
       have := ((hm.blk id p _ hp hH).2.1 p.lo (Nat.le_refl _) hlt).1
       rw [h5] at this; cases this
      ·exact hoth _ hqb
 ·have pick : ∀ (i : Nat) k, (m.H.set id (.cells cs'))[i]? = some k → k.live = true → ∃ k', m.H[i]? = some k' ∧ k'.live = true := by
   intro i k h hk
   by_cases hi : i = id
   ·subst hi; exact ⟨_, hH, rfl⟩
   ·rw [List.getElem?_set_ne (by omega)] at h; exact ⟨k, h, hk⟩
  obtain ⟨k1, g1, g2⟩ := pick i k h2 hk
  obtain ⟨k2, g3, g4⟩ := pick j l h4 hl'
  exact hm.apart i j q r k1 k2 hij h1 g1 h3 g3 g2 g4
 ·show q.b < w'.heap.size
  rw [hsz]
  by_cases hi : i = id
  ·subst hi; exact hm.inO i q _ h1 hH rfl hq
  ·have h2' : (m.H.set id (.cells cs'))[i]? = some k := h2
   rw [List.getElem?_set_ne (by omega)] at h2'
   exact hm.inO i q k h1 h2' hk hq
end rules
end Go.TL
