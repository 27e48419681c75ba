/-
  Rows of bytes that the call owns: strings appended; a nil slice becomes such a row.
-/
import Derived.Test.YthlcadlnomnmkaaTm
set_option linter.unusedVariables false
set_option linter.unusedSimpArgs false
namespace Go.TL
open Go

/-- A byte in a cell. -/
def byteSV (c : UInt8) : T := .v (.int .u8 c.toNat)
/-- Bytes in cells. -/
def bytesSV (l : Str) : List T := l.map byteSV

theorem bytesSV_append (a b : Str) : bytesSV (a ++ b) = bytesSV a ++ bytesSV b := List.map_append
theorem bytesSV_length (a : Str) : (bytesSV a).length = a.length := List.length_map _

theorem grow_row {m : M} (hm : HRel m) (e : TypeId) : Step m ⟨m.A, m.β ++ [⟨0, 0, 0⟩], m.H ++ [.row e []], m.w⟩ ∧ HRel ⟨m.A, m.β ++ [⟨0, 0, 0⟩], m.H ++ [.row e []], m.w⟩ := by
  refine grow hm (A' := m.A) rfl rfl rfl (Nat.le_refl _) (fun _ _ => rfl) (fun _ _ h => h) (fun _ _ h => .inl h) rfl ?_ ?_ (fun _ _ h h' => absurd h h') ?_
  · intro i p k h1 h2 h3
    cases i with
    | zero => simp at h1; subst h1; right; simp
    | succ i => simp at h1
  · intro i j p q hij h1 h2
    cases i <;> cases j <;> simp at h1 h2 hij
  · intro s i p k h1 h2
    cases i with
    | zero =>
      simp at h1 h2; subst h1; subst h2
      exact ⟨⟨rfl, Nat.le_refl _, fun h => absurd h (Nat.lt_irrefl _)⟩, fun o q1 q2 => by simp at q2, by simp⟩
    | succ i => simp at h1

theorem nil_row {m : M} (hm : HRel m) (e : TypeId) : SRel ⟨m.A, m.β ++ [⟨0, 0, 0⟩], m.H ++ [.row e []], m.w⟩ (.rw m.H.length 0) (.slice none 0 0) := by
  refine .rw _ _ _ ⟨0, 0, 0⟩ (by simp [← hm.len]) ⟨_, _, _, rfl⟩ fun k hk => ?_
  have hk' : tlOf (m.H ++ [Blk.row e []])[m.H.length]? = some k := hk
  simp [tlOf] at hk'
  subst hk'
  exact ⟨Nat.le_refl _, fun _ => ⟨none, 0, rfl, Nat.le_refl _, rfl, rfl, rfl⟩⟩

section rules
variable {P : Program} {n : Nat} {env : Env} {H : Heap} {K : TK} {all : Array Oper} {rest : List Oper} {tab : Tab} {q : Bool}
variable {d : Nat} {ty : TypeId} {pos : String} {aft : Array Edge}

/-- A nil slice in a cell of an owned block becomes the head of a row that the call owns. -/
theorem TR.row_cell {c : Code} (e : TypeId) (id j : Nat) {cs : List SV} {H' : Heap} (hH : H[id]? = some (.cells cs)) (hi : cs[j]? = some (.t (.v (.slice none 0 0)))) (hH' : H.set id (.cells (cs.set j (.rw H.length 0))) ++ [.row e []] = H')
    (k : TR P n c env H' K) : TR P n c env H K := by
  intro m a h1 h2 h3 h4
  obtain ⟨s, hm'⟩ := grow_row h2 e
  have hid := (List.getElem?_eq_some_iff.1 hH).1
  have hjl := (List.getElem?_eq_some_iff.1 hi).1
  have hH1 : m.H[id]? = some (.cells cs) := by rw [h1]; exact hH
  obtain ⟨p, hp⟩ : ∃ p, m.β[id]? = some p := ⟨_, List.getElem?_eq_getElem (by rw [h2.len, h1]; exact hid)⟩
  obtain ⟨b1, b2, b3⟩ := h2.blk id p _ hp hH1
  have hH2 : (m.H ++ [Blk.row e []])[id]? = some (.cells cs) := by rw [List.getElem?_append_left (by rw [h1]; exact hid)]; exact hH1
  have hp2 : (m.β ++ [(⟨0, 0, 0⟩ : Place)])[id]? = some p := by rw [List.getElem?_append_left (List.getElem?_eq_some_iff.1 hp).1]; exact hp
  obtain ⟨s2, hm2⟩ := upd (m := ⟨m.A, m.β ++ [⟨0, 0, 0⟩], m.H ++ [.row e []], m.w⟩) hm' (cs' := cs.set j (.rw m.H.length 0)) (w' := m.w) hp2 hH2 rfl rfl rfl rfl (fun _ _ => rfl) (fun _ _ => rfl) (fun _ => rfl) (fun _ => rfl) (fun _ h => h) (by simpa using b1) (by omega) (fun q c hc => by
    by_cases hq : q = j
    · subst hq
      rw [List.getElem?_set_self hjl] at hc
      cases hc
      obtain ⟨y, hy1, hy0, hy2⟩ := b3 q _ hi
      have := hy2.v_eq
      subst this
      exact ⟨_, hy1, rfl, nil_row h2 e⟩
    · rw [List.getElem?_set_ne (by omega)] at hc
      obtain ⟨y, hy1, hy0, hy2⟩ := b3 q c hc
      exact ⟨y, hy1, hy0, s.srel h2 hy2⟩)
  refine wp_mono (k ⟨m.A, m.β ++ [⟨0, 0, 0⟩], (m.H ++ [Blk.row e []]).set id (.cells (cs.set j (.rw m.H.length 0))), m.w⟩ a ?_ hm2 ((h3.step h2 s).step hm' s2) h4) fun _ _ _ hp => hp.step (s.trans s2)
  rw [← hH', ← h1]
  show (m.H ++ [Blk.row e []]).set id _ = _
  rw [List.set_append_left _ _ (by rw [h1]; exact hid)]

/-- The same in a region. -/
theorem TO.row_cell {ops : List Oper} (e : TypeId) (id j : Nat) {cs : List SV} {H' : Heap} (hH : H[id]? = some (.cells cs)) (hi : cs[j]? = some (.t (.v (.slice none 0 0)))) (hH' : H.set id (.cells (cs.set j (.rw H.length 0))) ++ [.row e []] = H')
    (k : TO false P n all ops env H' K) : TO false P n all ops env H K := by
  intro m a h1 h2 h3 h4
  obtain ⟨s, hm'⟩ := grow_row h2 e
  have hid := (List.getElem?_eq_some_iff.1 hH).1
  have hjl := (List.getElem?_eq_some_iff.1 hi).1
  have hH1 : m.H[id]? = some (.cells cs) := by rw [h1]; exact hH
  obtain ⟨p, hp⟩ : ∃ p, m.β[id]? = some p := ⟨_, List.getElem?_eq_getElem (by rw [h2.len, h1]; exact hid)⟩
  obtain ⟨b1, b2, b3⟩ := h2.blk id p _ hp hH1
  have hH2 : (m.H ++ [Blk.row e []])[id]? = some (.cells cs) := by rw [List.getElem?_append_left (by rw [h1]; exact hid)]; exact hH1
  have hp2 : (m.β ++ [(⟨0, 0, 0⟩ : Place)])[id]? = some p := by rw [List.getElem?_append_left (List.getElem?_eq_some_iff.1 hp).1]; exact hp
  obtain ⟨s2, hm2⟩ := upd (m := ⟨m.A, m.β ++ [⟨0, 0, 0⟩], m.H ++ [.row e []], m.w⟩) hm' (cs' := cs.set j (.rw m.H.length 0)) (w' := m.w) hp2 hH2 rfl rfl rfl rfl (fun _ _ => rfl) (fun _ _ => rfl) (fun _ => rfl) (fun _ => rfl) (fun _ h => h) (by simpa using b1) (by omega) (fun q c hc => by
    by_cases hq : q = j
    · subst hq
      rw [List.getElem?_set_self hjl] at hc
      cases hc
      obtain ⟨y, hy1, hy0, hy2⟩ := b3 q _ hi
      have := hy2.v_eq
      subst this
      exact ⟨_, hy1, rfl, nil_row h2 e⟩
    · rw [List.getElem?_set_ne (by omega)] at hc
      obtain ⟨y, hy1, hy0, hy2⟩ := b3 q c hc
      exact ⟨y, hy1, hy0, s.srel h2 hy2⟩)
  refine TO.step' (m' := ⟨m.A, m.β ++ [⟨0, 0, 0⟩], (m.H ++ [Blk.row e []]).set id (.cells (cs.set j (.rw m.H.length 0))), m.w⟩) (s.trans s2) (k ⟨m.A, m.β ++ [⟨0, 0, 0⟩], (m.H ++ [Blk.row e []]).set id (.cells (cs.set j (.rw m.H.length 0))), m.w⟩ a ?_ hm2 ((h3.step h2 s).step hm' s2) h4)
  rw [← hH', ← h1]
  show (m.H ++ [Blk.row e []]).set id _ = _
  rw [List.set_append_left _ _ (by rw [h1]; exact hid)]

/-- append of a byte onto an owned row of bytes. -/
theorem TO.append_byte (hT : TabOk P tab) {t t' e : TypeId} {i i' ie : TyI} {id len : Nat} {l : Str} {c : UInt8} {x y : Operand} {vy : SV} {H' : Heap} (hd : Nat.ble (d + 1) n = true) (ht : tab.get t = some i) (hk : i.k = .slice e) (ht' : tab.get t' = some i') (hk' : i'.k = .slice e)
    (he : tab.get e = some ie) (hs : ie.size = 1) (hx : env.val x = some (.rw id len)) (hH : H[id]? = some (.row e (bytesSV l))) (hlen : len = l.length) (hy : env.val y = some vy) (hvy : vy.elems 1 = some [.v (.int .u8 c.toNat)])
    (hby : Nat.ble ie.bytes 4096 = true) (hb1 : l.length + 1 ≤ 10000000000) (hH' : H.set id (.row e (bytesSV (l ++ [c]))) = H')
    (k : TO false P n all rest ((d, .rw id (l ++ [c]).length) :: env) H' K) : TO false P n all (⟨some d, .call { callee := .builtin .append, args := #[x, y], argTypes := #[t, t'] }, ty, pos, aft, none⟩ :: rest) env H K :=
  TO.append_row hT hd ht hk ht' hk' he hs hx hH (by rw [hlen, bytesSV_length]; exact Nat.beq_refl _) hy hvy rfl hby (by rw [bytesSV_length]; exact hb1) (H' := H') (by rw [← hH', bytesSV_append]; rfl) (by
    have : (bytesSV l ++ [T.v (.int .u8 (c.toNat : Int))]).length = (l ++ [c]).length := by simp [bytesSV_length]
    rw [this]; exact k)

/-- append of a string onto an owned row of bytes. -/
theorem TO.append_str (hT : TabOk P tab) {t t' e : TypeId} {i i' ie : TyI} {id len : Nat} {l r : Str} {x y : Operand} {H' : Heap} (hd : Nat.ble (d + 1) n = true) (ht : tab.get t = some i) (hk : i.k = .slice e) (ht' : tab.get t' = some i') (hk' : i'.k = .str)
    (he : tab.get e = some ie) (hs : ie.size = 1) (hx : env.val x = some (.rw id len)) (hH : H[id]? = some (.row e (bytesSV l))) (hlen : len = l.length) (hy : env.val y = some (.t (.v (str r))))
    (hby : Nat.ble ie.bytes 4096 = true) (hb1 : l.length + r.length ≤ 10000000000) (hH' : H.set id (.row e (bytesSV (l ++ r))) = H')
    (k : TO false P n all rest ((d, .rw id (l ++ r).length) :: env) H' K) : TO false P n all (⟨some d, .call { callee := .builtin .append, args := #[x, y], argTypes := #[t, t'] }, ty, pos, aft, none⟩ :: rest) env H K :=
  TO.eff hd (fun m ac h1 h2 h3 => by
    have ey := (h3.val hy).v_eq
    have h1' := Nat.le_of_ble_eq_true hby
    have h2' : (l.length + r.length) * ie.bytes ≤ 10000000000 * 4096 := Nat.mul_le_mul hb1 h1'
    obtain ⟨z, m', r1, s, hm', hHm, hr⟩ := row_append_run (P := P) hT h2 (ty := ty) (y := ac.eval y) (vs := r.map fun c => Value.int .u8 c.toNat) (ns := bytesSV r) ht hk he hs (h3.val hx) (by rw [h1]; exact hH) (by rw [hlen, bytesSV_length]) (by simp [bytesSV_length]) (.inl ((hT t' i' ht').str hk'))
      (fun w => by rw [ey]; simp [Builtin.lenOf]; rfl) (fun w' hw' => by
        rw [ey]
        simp only [Builtin.firstCells, List.length_map]
        have : ((⟨r.toArray⟩ : ByteArray).extract 0 r.length).data = r.toArray := by simp [ByteArray.data_extract]
        rw [this]; simp) (fun v hv => by simp at hv; obtain ⟨c, _, rfl⟩ := hv; rfl) (fun j c v hc hv => by
        simp only [bytesSV, List.getElem?_map] at hc hv
        cases hj : r[j]? with
        | none => rw [hj] at hc; cases hc
        | some t0 => rw [hj] at hc hv; cases hc; cases hv; exact .v _) (by simp [bytesSV_length]; omega) (by simp [bytesSV_length]; omega) (by omega)
    refine ⟨z, m', by simp [execOp, resolve, invoke, builtin, r1], s, hm', by rw [hHm, h1, ← bytesSV_append]; exact hH', ?_⟩
    rw [← bytesSV_append, bytesSV_length] at hr
    exact hr) k

theorem freeze_heap (w : World) (b k : Nat) : (w.freeze ⟨b, 0, none⟩ k).heap = if k = 0 then w.heap else w.heap.modify b fun
      | .cells c elem (lo, hi) => .cells c elem (if lo == hi then (0, 0 + k) else (min lo 0, max hi (0 + k)))
      | o => o := by
  unfold World.freeze
  split <;> rfl

/-- A row that is frozen is no longer owned. -/
theorem row_dead {m : M} (hm : HRel m) {id : Nat} {p : Place} {e : TypeId} {cs : List T} {k : Nat} {w' : World} (hp : m.β[id]? = some p) (hH : m.H[id]? = some (.row e cs)) (hos : w'.os = m.w.os) (htp : w'.tape = m.w.tape) (hou : w'.output = m.w.output)
    (hh : w'.heap = (m.w.freeze ⟨p.b, 0, none⟩ k).heap) (hpos : k ≤ p.hi) :
    Step m ⟨m.A, m.β.set id p, m.H.set id .dead, w'⟩ ∧ HRel ⟨m.A, m.β.set id p, m.H.set id .dead, w'⟩ := by
  have hb := hm.blk id p _ hp hH
  obtain ⟨⟨b1, b2, b3⟩, b4, b5⟩ := hb
  rw [freeze_heap] at hh
  have hsize : w'.heap.size = m.w.heap.size := by rw [hh]; split <;> simp
  have hoth : ∀ b, b ≠ p.b ∨ k = 0 → w'.heap[b]? = m.w.heap[b]? := by
    intro b hb
    rw [hh]
    split
    · rfl
    · rename_i h0
      rcases hb with hb | hb
      · simp [Array.getElem?_modify, Ne.symm hb]
      · exact absurd hb h0
  have hat : ∀ b, b = p.b → k ≠ 0 → ∃ c lo hi, m.w.heap[b]? = some (.cells c e (lo, hi)) ∧ c.size = p.hi ∧ w'.heap[b]? = some (.cells c e (if lo == hi then (0, 0 + k) else (min lo 0, max hi (0 + k)))) := by
    intro b hb h0
    subst hb
    have := b3 (by omega)
    unfold World.shape? at this
    split at this
    · rename_i c el fz hq
      obtain ⟨lo, hi⟩ := fz
      simp at this
      obtain ⟨rfl, h2⟩ := this
      refine ⟨c, lo, hi, hq, h2, ?_⟩
      rw [hh, if_neg h0]
      simp [Array.getElem?_modify, hq]
    · cases this
  have hcells : ∀ b o, w'.cell? ⟨b, o, none⟩ = m.w.cell? ⟨b, o, none⟩ := by
    intro b o
    by_cases hb : b ≠ p.b ∨ k = 0
    · simp [World.cell?, hoth b hb]
    · obtain ⟨c, lo, hi, g1, _, g2⟩ := hat b (by omega) (by omega)
      simp [World.cell?, g1, g2]
  have hshape : ∀ b, w'.shape? b = m.w.shape? b := by
    intro b
    by_cases hb : b ≠ p.b ∨ k = 0
    · simp [World.shape?, hoth b hb]
    · obtain ⟨c, lo, hi, g1, _, g2⟩ := hat b (by omega) (by omega)
      simp [World.shape?, g1, g2]
  have hfr : ∀ b o, ¬ (b = p.b ∧ p.lo ≤ o ∧ o < p.hi) → (m.w.cell? ⟨b, o, none⟩).isSome = true → w'.frozen? ⟨b, o, none⟩ = m.w.frozen? ⟨b, o, none⟩ := by
    intro b o hn hc
    by_cases hb : b ≠ p.b ∨ k = 0
    · simp [World.frozen?, hoth b hb]
    · obtain ⟨c, lo, hi, g1, g3, g2⟩ := hat b (by omega) (by omega)
      simp [World.cell?, g1] at hc
      omega
  exact mv_step hm (k1 := .dead) (p' := p) (A' := m.A) hp hH rfl hos htp hou (by rw [hsize]; exact Nat.le_refl _) (fun b o _ _ => hcells b o) (fun b o _ h hc => hfr b o h hc) (fun b _ h => hoth b (by omega)) (fun b o _ h => by rw [hcells]; exact h) (fun b s h => by rw [hshape]; exact h) (fun _ _ h => h) (fun _ _ h => .inl h) (fun h => by cases h) (fun h => by cases h) (fun o q1 q2 => (b4 o q1 q2).1) (fun n' h => by cases h) (fun _ => trivial)

end rules
end Go.TL
