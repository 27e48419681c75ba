/-
  The rules of operations that make memory or write it, second part: stores, literals, append.
-/
import Derived.Test.YthlcadlnomnmkaaTe
set_option linter.unusedVariables false
set_option linter.unusedSimpArgs false
namespace Go.TL
open Go

theorem setCells_rest (b : Nat) : ∀ (vs : List Value) (o : Nat) (w : World), (w.setCells b o vs).os = w.os ∧ (w.setCells b o vs).tape = w.tape ∧ (w.setCells b o vs).output = w.output ∧ (w.setCells b o vs).heap.size = w.heap.size ∧
    (∀ k, k ≠ b → (w.setCells b o vs).heap[k]? = w.heap[k]?) ∧ ∀ k, ((w.setCells b o vs).cell? ⟨b, k, none⟩).isSome = (w.cell? ⟨b, k, none⟩).isSome
  | [], _, _ => ⟨rfl, rfl, rfl, rfl, fun _ _ => rfl, fun _ => rfl⟩
  | v :: r, o, w => by
    obtain ⟨h1, h2, h3, h4, h5, h6⟩ := setCells_rest b r (o + 1) (w.setCell ⟨b, o, none⟩ v)
    refine ⟨h1, h2, h3, by rw [World.setCells, h4]; simp [World.setCell], fun k hk => by rw [World.setCells, h5 k hk]; exact RowKit.Below.heap_setCell _ _ _ _ hk, fun k => ?_⟩
    rw [World.setCells, h6 k]
    by_cases hk : k = o
    · subst hk
      cases hc : w.cell? ⟨b, k, none⟩ with
      | some u => rw [World.cell?_setCell_same _ _ _ hc]; rfl
      | none =>
        cases hc' : (w.setCell ⟨b, k, none⟩ v).cell? ⟨b, k, none⟩ with
        | none => rfl
        | some u =>
          exfalso
          simp only [World.cell?, World.setCell, Array.getElem?_modify] at hc hc'
          cases hq : w.heap[b]? with
          | none => rw [hq] at hc'; simp at hc'
          | some ob =>
            rw [hq] at hc hc'
            cases ob <;> simp at hc hc'
            rw [Array.getElem?_setIfInBounds] at hc'
            simp at hc'
            omega
    · rw [World.cell?_setCell_other _ _ _ _ (by simp <;> omega)]

theorem setCells_shape (b k : Nat) : ∀ (vs : List Value) (o : Nat) (w : World), (w.setCells b o vs).shape? k = w.shape? k
  | [], _, _ => rfl
  | v :: r, o, w => by
    rw [World.setCells, setCells_shape b k r]
    unfold World.shape? World.setCell
    simp only [Array.getElem?_modify]
    by_cases h : b = k
    · subst h
      rw [if_pos rfl]
      cases hq : w.heap[b]? with
      | none => rfl
      | some ob => cases ob <;> simp
    · rw [if_neg h]

def splice (cs : List SV) (off : Nat) (vs : List SV) : List SV := cs.take off ++ vs ++ cs.drop (off + vs.length)

theorem splice_get {cs : List SV} {off : Nat} {vs : List SV} (hl : off + vs.length ≤ cs.length) {j : Nat} {c : SV} (h : (splice cs off vs)[j]? = some c) :
    (off ≤ j ∧ j < off + vs.length ∧ vs[j - off]? = some c) ∨ ((j < off ∨ off + vs.length ≤ j) ∧ cs[j]? = some c) := by
  unfold splice at h
  rw [List.append_assoc] at h
  have ht : (cs.take off).length = off := by simp; omega
  by_cases h1 : j < off
  · rw [List.getElem?_append_left (by rw [ht]; exact h1), List.getElem?_take, if_pos h1] at h
    exact .inr ⟨.inl h1, h⟩
  · rw [List.getElem?_append_right (by rw [ht]; omega), ht] at h
    by_cases h2 : j - off < vs.length
    · rw [List.getElem?_append_left h2] at h
      exact .inl ⟨by omega, by omega, h⟩
    · rw [List.getElem?_append_right (by omega), List.getElem?_drop] at h
      rw [show off + vs.length + (j - off - vs.length) = j from by omega] at h
      exact .inr ⟨.inr (by omega), h⟩

theorem splice_length {cs : List SV} {off : Nat} {vs : List SV} (hl : off + vs.length ≤ cs.length) : (splice cs off vs).length = cs.length := by
  simp [splice]; omega

/-- Storing cells into an owned block. -/
theorem upd_cells {m : M} (hm : HRel m) {id off : Nat} {p : Place} {cs vs : List SV} {ys : List Value} (hp : m.β[id]? = some p) (hH : m.H[id]? = some (.cells cs)) (hl : off + vs.length ≤ cs.length) (hpos : 0 < vs.length)
    (hys : vs.length = ys.length) (h1 : ∀ y ∈ ys, y.oneCell' = true) (hr : ∀ (i : Nat) c y, vs[i]? = some c → ys[i]? = some y → SRel m c y) :
    Step m ⟨m.A, m.β, m.H.set id (.cells (splice cs off vs)), m.w.setCells p.b (p.lo + off) ys⟩ ∧ HRel ⟨m.A, m.β, m.H.set id (.cells (splice cs off vs)), m.w.setCells p.b (p.lo + off) ys⟩ := by
  obtain ⟨b1, b2, b3⟩ := hm.blk id p _ hp hH
  obtain ⟨e1, e2, e3, e4, e5, e6⟩ := setCells_rest p.b ys (p.lo + off) m.w
  refine upd hm hp hH e1 e2 e3 e4 e5 (fun o ho => ?_) (fun o => World.frozen?_setCells _ _ _ _ _) e6 (fun s hs => by rw [setCells_shape]; exact hs) (by rw [splice_length hl]; exact b1) (by omega) (fun j c hc => ?_)
  · exact World.cell?_setCells_out _ _ _ _ _ fun _ _ => by simp only []; omega
  · rcases splice_get hl hc with ⟨g1, g2, g3⟩ | ⟨g1, g2⟩
    · have hj : j - off < ys.length := by omega
      have := World.cell?_setCells_in p.b ys (p.lo + off) m.w (fun q hq => (b2 _ (by omega) (by omega)).1) (j - off) hj
      rw [show p.lo + off + (j - off) = p.lo + j from by omega] at this
      exact ⟨_, this, h1 _ (List.getElem_mem hj), hr _ _ _ g3 (List.getElem?_eq_getElem hj)⟩
    · obtain ⟨y, hy1, hy0, hy2⟩ := b3 j c g2
      exact ⟨y, by rw [World.cell?_setCells_out _ _ _ _ _ (fun _ _ => by simp only []; omega)]; exact hy1, hy0, hy2⟩

section rules
variable {P : Program} {n : Nat} {env : Env} {H : Heap} {K : TK} {all : Array Oper} {rest : List Oper} {tab : Tab}
variable {d : Nat} {ty : TypeId} {pos : String} {aft : Array Edge} {q : Bool}

theorem TO.store (hT : TabOk P tab) {t : TypeId} {i : TyI} {x y : Operand} {v : SV} {vs cs : List SV} {id off : Nat} {H' : Heap} (ht : tab.get t = some i) (hx : env.val x = some (.ref id off)) (hy : env.val y = some v)
    (hv : v.solid = true) (hvs : v.cells = vs) (hsz : i.size = vs.length) (hpos : 0 < vs.length) (hH : H[id]? = some (.cells cs)) (hl : off + vs.length ≤ cs.length) (hH' : H.set id (.cells (splice cs off vs)) = H')
    (k : TO false P n all rest env H' K) : TO false P n all (⟨none, .store t x y, ty, pos, aft, none⟩ :: rest) env H K :=
  TO.eff0 (fun m ac h1 h2 h3 => by
    obtain ⟨g1, g0, g2⟩ := (h3.val hy).cells hv
    rw [hvs] at g1 g2
    have h := h3.val hx
    generalize hq : ac.eval x = z at h
    cases h with
    | ref _ _ p hp hn =>
      have hH1 : m.H[id]? = some (.cells cs) := by rw [h1]; exact hH
      obtain ⟨b1, b2, b3⟩ := h2.blk id p _ hp hH1
      obtain ⟨s, hm'⟩ := upd_cells h2 (ys := (ac.eval y).cells.toList) hp hH1 hl hpos (by simpa using g1) (fun u hu => by
        obtain ⟨q, hq⟩ := List.getElem?_of_mem hu
        exact g0 q u (by simpa using hq)) (fun q c u hc hu => g2 q c u hc (by simpa using hu))
      refine ⟨_, ?_, s, hm', by rw [h1]; exact hH'⟩
      have hst := run_storeCells_cells (P := P) p.b (p.lo + off) (ac.eval y).cells.toList 0 m.w (fun q hq => (b2 _ (by omega) (by simp at hq; omega)).1) (fun q hq => (b2 _ (by omega) (by simp at hq; omega)).2) (fun u hu => by
        obtain ⟨q, hq⟩ := List.getElem?_of_mem hu
        exact g0 q u (by simpa using hq))
      have hne : (ac.eval y).cells.size = i.size := by omega
      simp [execOp, hq, Instr.storeAt, Instr.sureAddr, storeVar, (hT t i ht).sizeOf, hne, hst]) k

/-- One cell of a block whose cells are a list. -/
theorem TO.store1 (hT : TabOk P tab) {t : TypeId} {i : TyI} {x y : Operand} {v : SV} {cs : List SV} {id off : Nat} {H' : Heap} (ht : tab.get t = some i) (hx : env.val x = some (.ref id off)) (hy : env.val y = some v)
    (hv : v.solid = true) (hvs : v.cells = [v]) (hsz : i.size = 1) (hH : H[id]? = some (.cells cs)) (hl : off < cs.length) (hH' : H.set id (.cells (cs.set off v)) = H')
    (k : TO false P n all rest env H' K) : TO false P n all (⟨none, .store t x y, ty, pos, aft, none⟩ :: rest) env H K :=
  TO.store hT ht hx hy hv hvs (by rw [hsz]; rfl) (by simp) hH (by simpa using (show off + 1 ≤ cs.length from hl)) (by
    rw [← hH']
    congr 2
    simp only [splice, List.length_singleton]
    rw [List.set_eq_take_append_cons_drop, if_pos hl]; simp) k

/-- The cells of a literal: parts laid over zeros. -/
def fillSV (fs : List (Nat × Nat)) : List SV → List (Nat × SV) → Option (List SV)
  | cs, [] => some cs
  | cs, (i, v) :: r => match fs[i]? with
    | some (off, sz) => if v.solid = true ∧ v.cells.length = sz ∧ off + sz ≤ cs.length then fillSV fs (splice cs off v.cells) r else none
    | none => none

theorem fold_set (ys : List Value) (off : Nat) : ∀ (k : Nat) (cells : Array Value), off + k + ys.length ≤ cells.size →
    (((ys.zipIdx k).foldl (fun cs (x : Value × Nat) => cs.setIfInBounds (off + x.2) x.1) cells).size = cells.size) ∧
    ∀ j, ((ys.zipIdx k).foldl (fun cs (x : Value × Nat) => cs.setIfInBounds (off + x.2) x.1) cells)[j]? = if off + k ≤ j ∧ j < off + k + ys.length then ys[j - (off + k)]? else cells[j]? := by
  induction ys with
  | nil => intro k cells _; refine ⟨rfl, fun j => ?_⟩; rw [if_neg (by simp <;> omega)]; rfl
  | cons y r ih =>
    intro k cells hk
    simp only [List.length_cons] at hk
    have := ih (k + 1) (cells.setIfInBounds (off + k) y) (by simp; omega)
    simp only [List.zipIdx_cons, List.foldl_cons]
    refine ⟨by rw [this.1]; simp, fun j => ?_⟩
    rw [this.2 j]
    by_cases h1 : off + (k + 1) ≤ j ∧ j < off + (k + 1) + r.length
    · rw [if_pos h1, if_pos (by simp; omega), show j - (off + k) = (j - (off + (k + 1))) + 1 from by omega]; simp
    · rw [if_neg h1]
      by_cases h2 : j = off + k
      · subst h2
        rw [if_pos (by simp), Array.getElem?_setIfInBounds_self_of_lt (by omega)]; simp
      · rw [if_neg (by simp; omega), Array.getElem?_setIfInBounds_ne (by omega)]

theorem fill_ok {m : M} (fs : List (Nat × Nat)) (pl : Nat → Option (Nat × Nat)) (hpl : ∀ (i : Nat) a, fs[i]? = some a → pl i = some a) : ∀ (parts : List (Nat × SV)) (vals : List (Nat × Value)) (cs cs' : List SV) (arr : Array Value),
    parts.length = vals.length → (∀ (i : Nat) a b, parts[i]? = some a → vals[i]? = some b → a.1 = b.1 ∧ SRel m a.2 b.2) → fillSV fs cs parts = some cs' →
    arr.size = cs.length → (∀ (i : Nat) y, arr[i]? = some y → y.oneCell' = true) → (∀ (i : Nat) c y, cs[i]? = some c → arr[i]? = some y → SRel m c y) →
    ∃ arr', Instr.fill pl arr vals = some arr' ∧ arr'.size = cs'.length ∧ (∀ (i : Nat) y, arr'[i]? = some y → y.oneCell' = true) ∧ (∀ (i : Nat) c y, cs'[i]? = some c → arr'[i]? = some y → SRel m c y)
  | [], vals, cs, cs', arr, hl, _, hf, ha, h1, hr => by
    cases vals with
    | nil => simp [fillSV] at hf; subst hf; exact ⟨arr, rfl, ha, h1, hr⟩
    | cons => simp at hl
  | (i, v) :: parts, vals, cs, cs', arr, hl, hv, hf, ha, h1, hr => by
    cases vals with
    | nil => simp at hl
    | cons b vals =>
      obtain ⟨i', x⟩ := b
      have h0 := hv 0 _ _ rfl rfl
      simp only at h0
      obtain ⟨rfl, hvx⟩ := h0
      simp only [fillSV] at hf
      cases hfi : fs[i]? with
      | none => rw [hfi] at hf; cases hf
      | some os =>
        obtain ⟨off, sz⟩ := os
        rw [hfi] at hf
        simp only at hf
        split at hf
        · rename_i hc
          obtain ⟨c1, c2, c3⟩ := hc
          obtain ⟨g1, g0, g2⟩ := hvx.cells c1
          have hxs : x.cells.size = sz := by omega
          have hfold := fold_set x.cells.toList off 0 arr (by simp; omega)
          have hstep : Instr.fill pl arr ((i, x) :: vals) = Instr.fill pl ((x.cells.toList.zipIdx 0).foldl (fun cs (x : Value × Nat) => cs.setIfInBounds (off + x.2) x.1) arr) vals := by
            rw [Instr.fill, hpl _ _ hfi]
            simp only
            rw [if_neg (by simp [hxs]; omega), ← Array.foldl_toList, Array.toList_zipIdx]
          rw [hstep]
          refine fill_ok fs pl hpl parts vals _ cs' _ (by simpa using hl) (fun j a b ha hb => hv (j + 1) a b (by simpa using ha) (by simpa using hb)) hf ?_ (fun j y hy => ?_) (fun j c y hc hy => ?_)
          · rw [hfold.1, splice_length (by omega), ha]
          · rw [hfold.2 j] at hy
            split at hy
            · exact g0 _ y (by simpa using hy)
            · exact h1 _ y hy
          · rw [hfold.2 j] at hy
            rcases splice_get (by omega) hc with ⟨q1, q2, q3⟩ | ⟨q1, q2⟩
            · rw [if_pos (by simp; omega)] at hy
              exact g2 _ c y q3 (by simpa using hy)
            · rw [if_neg (by simp; omega)] at hy
              exact hr _ c y q2 hy
        · cases hf

/-- The fields' places, with their sizes. -/
def sizes (tab : Tab) : List (Nat × TypeId) → Option (List (Nat × Nat))
  | [] => some []
  | (o, t) :: r => match tab.get t, sizes tab r with
    | some i, some l => some ((o, i.size) :: l)
    | _, _ => none

theorem sizes_run (hT : TabOk P tab) (w : World) : ∀ (gs : List Field) (fs : List (Nat × Nat)), sizes tab (gs.map fun f => (f.offset, f.type)) = some fs →
    (gs.mapM fun f => (Functor.map (Prod.mk f.offset) (sizeOf f.type) : Sem (Nat × Nat))).run P w = .ok fs w
  | [], fs, h => by simp [sizes] at h; subst h; rfl
  | g :: gs, fs, h => by
    simp only [List.map_cons, sizes] at h
    cases h1 : tab.get g.type with
    | none => rw [h1] at h; cases h
    | some i =>
      rw [h1] at h
      cases h2 : sizes tab (gs.map fun f => (f.offset, f.type)) with
      | none => rw [h2] at h; cases h
      | some l =>
        rw [h2] at h
        cases h
        have := sizes_run hT w gs l h2
        simp [List.mapM_cons, (hT _ i h1).sizeOf, this]

/-- All cells are trees. -/
def allT : List SV → Option (List T)
  | [] => some []
  | .t t :: r => (allT r).map (t :: ·)
  | .sl sz es _ :: r => (allT r).map (.sl sz es :: ·)
  | _ :: _ => none

theorem allT_rel {m : M} : ∀ {cs : List SV} {ts : List T}, allT cs = some ts → cs.length = ts.length ∧ ∀ (i : Nat) t, ts[i]? = some t → ∃ c, cs[i]? = some c ∧ ∀ y, SRel m c y → TRel m.A m.w t y
  | [], ts, h => by simp [allT] at h; subst h; simp
  | c :: r, ts, h => by
    have key : ∀ t0, (∀ y, SRel m c y → TRel m.A m.w t0 y) → (allT r).map (t0 :: ·) = some ts → (c :: r).length = ts.length ∧ ∀ (i : Nat) t, ts[i]? = some t → ∃ c', (c :: r)[i]? = some c' ∧ ∀ y, SRel m c' y → TRel m.A m.w t y := by
      intro t0 h0 h
      cases hr : allT r with
      | none => rw [hr] at h; cases h
      | some us =>
        rw [hr] at h
        cases h
        obtain ⟨g1, g2⟩ := allT_rel (m := m) hr
        refine ⟨by simp [g1], fun i t ht => ?_⟩
        cases i with
        | zero => simp at ht; subst ht; exact ⟨c, rfl, h0⟩
        | succ i => simpa using g2 i t (by simpa using ht)
    cases c with
    | t t => exact key t (fun y hy => by cases hy with | t _ _ h => exact h) h
    | sl sz es id => exact key (.sl sz es) (fun y hy => by cases hy with | sl _ _ _ _ _ h => exact h) h
    | _ => simp [allT] at h

theorem mapM_pair_run (w : World) (f : Operand → Value) (parts : Array (Nat × Operand)) : (parts.map fun (x : Nat × Operand) => (x.1, f x.2)).toList = parts.toList.map fun x => (x.1, f x.2) := by simp

/-- The parts of a literal. -/
def Env.parts (env : Env) : List (Nat × Operand) → Option (List (Nat × SV))
  | [] => some []
  | (i, x) :: r => match env.val x, Env.parts env r with
    | some v, some l => some ((i, v) :: l)
    | _, _ => none

theorem ERel.parts {m : M} {ac : Act} (g : ERel m n env ac.tmps) : ∀ (l : List (Nat × Operand)) (ps : List (Nat × SV)), env.parts l = some ps →
    ps.length = (l.map fun x => (x.1, ac.eval x.2)).length ∧ ∀ (i : Nat) a b, ps[i]? = some a → (l.map fun x => (x.1, ac.eval x.2))[i]? = some b → a.1 = b.1 ∧ SRel m a.2 b.2
  | [], ps, h => by simp [Env.parts] at h; subst h; simp
  | (j, x) :: r, ps, h => by
    simp only [Env.parts] at h
    cases hx : env.val x with
    | none => rw [hx] at h; cases h
    | some v =>
      rw [hx] at h
      cases hr : env.parts r with
      | none => rw [hr] at h; cases h
      | some l =>
        rw [hr] at h
        cases h
        obtain ⟨g1, g2⟩ := ERel.parts g r l hr
        refine ⟨by simpa using g1, fun i a b ha hb => ?_⟩
        cases i with
        | zero => simp at ha hb; subst ha; subst hb; exact ⟨rfl, g.val hx⟩
        | succ i => exact g2 i a b (by simpa using ha) (by simpa using hb)

theorem build_run (hT : TabOk P tab) {m : M} {ac : Act} (g : ERel m n env ac.tmps) {t : TypeId} {i : TyI} {fs : List (Nat × TypeId)} {fz : List (Nat × Nat)} {parts : Array (Nat × Operand)} {ps : List (Nat × SV)} {cs : List SV}
    (ht : tab.get t = some i) (hk : i.k = .struct fs) (hz : sizes tab fs = some fz) (hp : env.parts parts.toList = some ps) (hc : fillSV fz (i.zero.map .t) ps = some cs) :
    ∃ arr, (∀ w', (Instr.build t (parts.map fun (i, x) => (i, ac.eval x))).run P w' = .ok (.agg arr) w') ∧ arr.size = cs.length ∧ (∀ (i : Nat) y, arr[i]? = some y → y.oneCell' = true) ∧ (∀ (i : Nat) c y, cs[i]? = some c → arr[i]? = some y → SRel m c y) := by
  obtain ⟨gs, hu, hfs⟩ := (hT t i ht).struct hk
  obtain ⟨z, hz1, hz2, hz3, _⟩ := (hT t i ht).zero
  obtain ⟨q1, q0, q2⟩ := zero_rel (A := m.A) (w := m.w) _ _ hz2
  obtain ⟨p1, p2⟩ := g.parts parts.toList ps hp
  obtain ⟨arr, r1, r2, r3, r4⟩ := fill_ok (m := m) fz (fun j => fz[j]?) (fun _ _ h => h) ps _ (i.zero.map .t) cs z.cells p1 p2 hc (by simp [q1]) (fun j y hy => q0 j y (by simpa using hy)) (fun j c y hj hy => by
    rw [List.getElem?_map] at hj
    cases hq : i.zero[j]? with
    | none => rw [hq] at hj; cases hj
    | some u => rw [hq] at hj; cases hj; exact .t _ _ (q2 j u y hq (by simpa using hy)))
  refine ⟨arr, fun w' => ?_, r2, r3, r4⟩
  have hsz := sizes_run hT w' gs.toList fz (by rw [← hfs]; exact hz)
  have hm : (gs.mapM fun f => (do pure (f.offset, ← sizeOf f.type) : Sem (Nat × Nat))).run P w' = .ok fz.toArray w' := by
    rw [Array.mapM_eq_mapM_toList]
    simp [hsz]
  simp only [Instr.build, Sem.run_bind, hz1, Result.andThen_ok, underlying, run_program, hu, Sem.run_pure, hm, Array.toList_map, List.getElem?_toArray]
  rw [r1]
  rfl

theorem TO.build (hT : TabOk P tab) {t : TypeId} {i : TyI} {fs : List (Nat × TypeId)} {fz : List (Nat × Nat)} {parts : Array (Nat × Operand)} {ps : List (Nat × SV)} {cs : List SV} (hd : Nat.ble (d + 1) n = true)
    (ht : tab.get t = some i) (hk : i.k = .struct fs) (hz : sizes tab fs = some fz) (hp : env.parts parts.toList = some ps) (hc : fillSV fz (i.zero.map .t) ps = some cs)
    (k : TO q P n all rest ((d, .ag cs) :: env) H K) : TO q P n all (⟨some d, .build t parts, ty, pos, aft, none⟩ :: rest) env H K :=
  TO.op hd (fun m ac h1 h2 h3 => by
    obtain ⟨arr, r1, r2, r3, r4⟩ := build_run hT h3 ht hk hz hp hc
    exact ⟨_, fun w' _ => by simp only [execOp, Sem.run_bind, r1 w']; rfl, .ag _ _ r2 r3 r4⟩) k

theorem TO.buildT (hT : TabOk P tab) {t : TypeId} {i : TyI} {fs : List (Nat × TypeId)} {fz : List (Nat × Nat)} {parts : Array (Nat × Operand)} {ps : List (Nat × SV)} {cs : List SV} {ts : List T} (hd : Nat.ble (d + 1) n = true)
    (ht : tab.get t = some i) (hk : i.k = .struct fs) (hz : sizes tab fs = some fz) (hp : env.parts parts.toList = some ps) (hc : fillSV fz (i.zero.map .t) ps = some cs) (hts : allT cs = some ts)
    (k : TO q P n all rest ((d, .t (.ag ts)) :: env) H K) : TO q P n all (⟨some d, .build t parts, ty, pos, aft, none⟩ :: rest) env H K :=
  TO.op hd (fun m ac h1 h2 h3 => by
    obtain ⟨arr, r1, r2, r3, r4⟩ := build_run hT h3 ht hk hz hp hc
    obtain ⟨a1, a2⟩ := allT_rel (m := m) hts
    refine ⟨_, fun w' _ => by simp only [execOp, Sem.run_bind, r1 w']; rfl, .t _ _ (.ag _ _ (by omega) r3 fun j t y hj hy => ?_)⟩
    obtain ⟨c, hc1, hc2⟩ := a2 j t hj
    exact hc2 y (r4 j c y hc1 hy)) k

end rules
end Go.TL
