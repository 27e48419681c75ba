/-
  The rules of single operations that leave the world alone.
-/
import Derived.Test.YthlcadlnomnmkaaTb
set_option linter.unusedVariables false
set_option linter.unusedSimpArgs false
namespace Go.TL
open Go

/-- A string by its bytes. -/
abbrev Str := List UInt8
abbrev str (l : Str) : Value := .string ⟨l.toArray⟩
abbrev i64 (n : Int) : Value := .int .i64 n
abbrev SV.i (n : Int) : SV := .t (.v (.int .i64 n))
abbrev SV.b (x : Bool) : SV := .t (.v (.bool x))
abbrev SV.s (l : Str) : SV := .t (.v (str l))
abbrev T.i (n : Int) : T := .v (.int .i64 n)
abbrev T.b (x : Bool) : T := .v (.bool x)
abbrev T.s (l : Str) : T := .v (str l)

/-- What a type is, as far as the rules ask. -/
inductive TK' where
  | scalar
  | str
  | slice (e : TypeId)
  | struct (fs : List (Nat × TypeId))
  | ptr (e : TypeId)
  | map (k e : TypeId)
  | array (n : Nat) (e : TypeId)
  | iface

structure TyI where
  k : TK'
  size : Nat
  bytes : Nat
  zero : List T

abbrev Tab := List (TypeId × TyI)

def Tab.get : Tab → TypeId → Option TyI
  | [], _ => none
  | (k, v) :: r, i => bif Nat.beq k i then some v else Tab.get r i

def TK'.fits : TK' → TypeDesc → Bool
  | .scalar, .bool | .scalar, .int _ | .str, .string => true
  | .slice e, .slice f => e == f
  | .struct fs, .struct gs => fs == gs.toList.map fun f => (f.offset, f.type)
  | .ptr e, .pointer f => e == f
  | .map k e, .map l f => k == l && e == f
  | .array n e, .array m f => n == m && e == f
  | .iface, .interface _ => true
  | .scalar, .func .. => true
  | _, _ => false

/-- A tree without memory stands for this cell. -/
def T.fits : T → Value → Bool
  | .v (.bool a), .bool b => a == b
  | .v (.int k a), .int l b => k == l && a == b
  | .v (.string a), .string b => a.data == b.data
  | .v (.pointer none), .pointer none => true
  | .v (.map none), .map none => true
  | .v .nilFunc, .nilFunc => true
  | .v .nilIface, .nilIface => true
  | .sl _ [], .slice none 0 0 => true
  | .v (.slice none 0 0), .slice none 0 0 => true
  | _, _ => false

def fitsAll : List T → List Value → Bool
  | [], [] => true
  | t :: ts, v :: vs => t.fits v && fitsAll ts vs
  | _, _ => false

def TK'.agg : TK' → Bool
  | .struct _ | .array _ _ => true
  | _ => false

def tabFit (P : Program) (t : TypeId) (i : TyI) : Bool :=
  match P.underlying t, P.info? t with
  | some d, some ti => i.k.fits d && ti.size == i.size && (ti.bytes == i.bytes && i.zero.length == i.size) && (match ti.zero with
    | some z => fitsAll i.zero z.cells.toList && (match i.k, z with | .struct _, .agg _ | .array _ _, .agg _ => true | .struct _, _ | .array _ _, _ => false | _, .agg _ => false | _, .tuple _ => false | _, _ => true)
    | none => false)
  | _, _ => false

def tabCheck (P : Program) (tab : Tab) : Bool := tab.all fun x => tabFit P x.1 x.2

structure Fit (P : Program) (t : TypeId) (i : TyI) : Prop where
  len : i.zero.length = i.size
  ex : ∃ d ti z, P.underlying t = some d ∧ P.info? t = some ti ∧ i.k.fits d = true ∧ ti.size = i.size ∧ ti.bytes = i.bytes ∧ ti.zero = some z ∧ fitsAll i.zero z.cells.toList = true ∧
    (i.k.agg = true → ∃ cs, z = .agg cs) ∧ (i.k.agg = false → z.oneCell' = true)

def TabOk (P : Program) (tab : Tab) : Prop := ∀ t i, tab.get t = some i → Fit P t i

theorem Tab.get_mem : ∀ {tab : Tab} {t : TypeId} {i : TyI}, tab.get t = some i → (t, i) ∈ tab
  | [], _, _, h => by simp [Tab.get] at h
  | (k, v) :: r, t, i, h => by
    simp only [Tab.get] at h
    cases hb : Nat.beq k t with
    | true =>
      rw [hb] at h
      simp only [cond_true, Option.some.injEq] at h
      have := Nat.eq_of_beq_eq_true hb
      subst this; subst h; simp
    | false =>
      rw [hb] at h
      exact List.mem_cons_of_mem _ (Tab.get_mem h)

theorem tabOk_of_check {P : Program} {tab : Tab} (h : tabCheck P tab = true) : TabOk P tab := by
  intro t i hi
  have hm := Tab.get_mem hi
  have := List.all_eq_true.1 h _ hm
  unfold tabFit at this
  split at this
  · rename_i d ti h1 h2
    simp only [Bool.and_eq_true, beq_iff_eq] at this
    obtain ⟨⟨⟨h3, h4⟩, h5, h5'⟩, h6⟩ := this
    split at h6
    · rename_i z hz
      simp only [Bool.and_eq_true] at h6
      obtain ⟨h7, h8⟩ := h6
      refine ⟨h5', d, ti, z, h1, h2, h3, h4, h5, hz, h7, fun ha => ?_, fun ha => ?_⟩
      · cases hk : i.k <;> simp [hk, TK'.agg] at ha <;> (cases z <;> simp [hk] at h8 <;> exact ⟨_, rfl⟩)
      · cases hk : i.k <;> simp [hk, TK'.agg] at ha <;> (cases z <;> simp [hk, Value.oneCell'] at h8 ⊢)
    · cases h6
  · cases this

section rules
variable {P : Program} {n : Nat} {env : Env} {H : Heap} {K : TK} {all : Array Oper} {rest : List Oper} {q : Bool}

theorem TR.region {id : Nat} {l : List Oper} (h : TO false P n l.toArray l env H K) : TR P n (.region id l.toArray false) env H K :=
  fun m a h1 h2 h3 h4 => wp_region_lit (h m a h1 h2 h3 h4)

theorem wpQuiet_mono {C : World → Prop} {Q Q' : Act → Prop} (hq : ∀ a, Q a → Q' a) : ∀ (l : List Oper) (a : Act), wpQuiet P all C Q l a → wpQuiet P all C Q' l a
  | [], a, h => hq a h
  | o :: r, a, h => by
    unfold wpQuiet at h ⊢
    split
    · rename_i hw; rw [if_pos hw] at h; exact Oper.quiet_mono (fun a' h' => wpQuiet_mono hq r a' h') h
    · rename_i hw; rw [if_neg hw] at h; exact wpQuiet_mono hq r _ h

theorem shape_lt {w : World} {b : Nat} {s : TypeId × Nat} (h : w.shape? b = some s) : b < w.heap.size := by
  unfold World.shape? at h
  cases hq : w.heap[b]? with
  | none => rw [hq] at h; cases h
  | some o => exact (Array.getElem?_eq_some_iff.1 hq).1

theorem shape_of_block {w w' : World} {b : Nat} (h : w'.heap[b]? = w.heap[b]?) : w'.shape? b = w.shape? b := by simp [World.shape?, h]

theorem shape_keep {w w' : World} (k : Keeps w w') {b : Nat} {s : TypeId × Nat} (h : w.shape? b = some s) : w'.shape? b = some s := by
  rw [shape_of_block (k.block b (shape_lt h))]; exact h

theorem TR.regionQ {id : Nat} {l : List Oper} (hm : P.follows .mixedOrders = true) (hB : Region.lexB .any l.toArray = true) (h : TO true P n l.toArray l env H K) : TR P n (.region id l.toArray true) env H K := by
  intro m a h1 h2 h3 h4
  have hq := h m a h1 h2 h3 h4
  have keepStep : ∀ w', Keeps m.w w' → Step m ⟨m.A, m.β, m.H, w'⟩ ∧ HRel ⟨m.A, m.β, m.H, w'⟩ := by
    intro w' k
    have hc : ∀ b o, b < m.w.heap.size → w'.cell? ⟨b, o, none⟩ = m.w.cell? ⟨b, o, none⟩ := fun b o hb => by simp [World.cell?, k.block b hb]
    have hf : ∀ b o, b < m.w.heap.size → w'.frozen? ⟨b, o, none⟩ = m.w.frozen? ⟨b, o, none⟩ := fun b o hb => by simp [World.frozen?, k.block b hb]
    have s : Step m ⟨m.A, m.β, m.H, w'⟩ := ⟨k.os, k.tape, k.output, k.size, fun _ _ h => h, fun _ _ h => .inl h, fun _ _ h => .inl h, fun b o hb _ => hc b o hb, fun b o hb _ _ => hf b o hb, fun b hb _ => k.block b hb, fun b s hs => shape_keep k hs, fun b o hb h => by rw [hc b o hb]; exact h, (Step.refl m).ids⟩
    refine ⟨s, h2.len, fun i p kk g1 g2 => ?_, h2.apart, h2.still, fun b o h => Nat.lt_of_lt_of_le (h2.inA b o h) k.size, fun i p kk g1 g2 g3 g4 => Nat.lt_of_lt_of_le (h2.inO i p kk g1 g2 g3 g4) k.size⟩
    have hb := h2.blk i p kk g1 g2
    cases kk with
    | cells cs =>
      obtain ⟨b1, b2, b3⟩ := hb
      refine ⟨b1, fun o ho ho' => ?_, fun j c hc' => ?_⟩
      · have := b2 o ho ho'
        have hlt := h2.inO i p _ g1 g2 rfl (by omega)
        unfold Free at this ⊢
        rw [hc _ _ hlt, hf _ _ hlt]; exact this
      · obtain ⟨y, y1, y0, y2⟩ := b3 j c hc'
        have hj := (List.getElem?_eq_some_iff.1 hc').1
        have hlt := h2.inO i p _ g1 g2 rfl (by omega)
        exact ⟨y, by rw [hc _ _ hlt]; exact y1, y0, s.srel h2 y2⟩
    | tail t =>
      intro o ho ho'
      have := hb o ho ho'
      have hlt := h2.inO i p _ g1 g2 rfl (by omega)
      unfold Free at this ⊢
      rw [hc _ _ hlt, hf _ _ hlt]; exact this
    | row e cs =>
      obtain ⟨b1, b2, b3⟩ := hb
      refine ⟨⟨b1.1, b1.2.1, fun h => shape_keep k (b1.2.2 h)⟩, fun o ho ho' => ?_, fun j c hc' => ?_⟩
      · have := b2 o ho ho'
        have hlt := h2.inO i p _ g1 g2 rfl (by omega)
        unfold Free at this ⊢
        rw [hc _ _ hlt, hf _ _ hlt]; exact this
      · obtain ⟨y, y1, y0, y2⟩ := b3 j c hc'
        have hj := (List.getElem?_eq_some_iff.1 hc').1
        have hlt := h2.inO i p _ g1 g2 rfl (by omega)
        exact ⟨y, by rw [hc _ _ hlt]; exact y1, y0, s.trel h2 y2⟩
    | map kt vt es =>
      obtain ⟨b1, b2, a, clock, b3, b4, b5⟩ := hb
      have hlt := h2.inO i p _ g1 g2 rfl (by omega)
      exact ⟨b1, b2, a, clock, by rw [k.block _ hlt]; exact b3, b4, fun i k t e he ha => ⟨(b5 i k t e he ha).1, s.trel h2 (b5 i k t e he ha).2.1, (b5 i k t e he ha).2.2⟩⟩
    | dead => trivial
  refine wp_region_quiet (C := Keeps m.w) hm hB ⟨rfl, rfl, rfl, Nat.le_refl _, fun _ _ => rfl⟩ ?_
  refine wpQuiet_mono ?_ l a hq
  rintro a' ⟨env', g1, g2, g3⟩ w' hw'
  obtain ⟨s, hm'⟩ := keepStep w' hw'
  exact ⟨_, env', .normal, rfl, s, hm', g1.step h2 s, g2, trivial, g3⟩

theorem TO.nil (h : K .normal env H) : TO q P n all [] env H K := by
  intro m a h1 h2 h3 h4
  cases q with
  | false => exact wpList_nil ⟨m, env, .normal, rfl, .refl m, h2, h3, h4, trivial, h1 ▸ h⟩
  | true => exact ⟨env, h3, h4, h1 ▸ h⟩

theorem TO.sub (env' : Env) (hs : env.sub env') {ops : List Oper} (h : TO q P n all ops env' H K) : TO q P n all ops env H K :=
  fun m a h1 h2 h3 h4 => h m a h1 h2 (h3.sub (Env.sub_look hs)) h4

theorem wpList_mono {Q Q' : Exit → Act → World → Prop} (hq : ∀ e a w, Q e a w → Q' e a w) (hout : ∀ a w, ¬ Q .outgrown a w) : ∀ (l : List Oper) (a : Act) (w : World), wpList P all Q l a w → wpList P all Q' l a w
  | [], a, w, h => hq _ _ _ h
  | o :: r, a, w, h => by
    unfold wpList at h ⊢
    split
    · rename_i hw
      rw [if_pos hw] at h
      refine .inl ?_
      rcases h with h | ⟨_, a0, w0, h⟩
      · unfold Oper.wp at h ⊢
        revert h
        generalize (execOp a.eval o).run P w = r'
        intro h
        cases r' with
        | ok x w' =>
          cases x <;> simp only [Oper.upon] at h ⊢ <;> first
            | exact wpList_mono hq hout r _ _ h
            | (refine Calls.mono h fun e w2 h2 => ?_
               cases e with
               | returned v => exact wpList_mono hq hout r _ _ h2
               | panicked ch => exact hq _ _ _ h2
               | outgrown => obtain ⟨a0, w0, h0⟩ := h2; exact absurd h0 (hout _ _))
            | (exact Rows.mono h fun v w2 h2 => wpList_mono hq hout r _ _ h2)
        | halt x w' =>
          cases x <;> simp only [Oper.upon] at h ⊢
          exact hq _ _ _ h
      · exact absurd h (hout _ _)
    · rename_i hw
      rw [if_neg hw] at h
      exact wpList_mono hq hout r _ _ h

theorem Post.not_outgrown {m : M} {a : Act} {w : World} : ¬ Post m n K .outgrown a w := by
  rintro ⟨m2, env2, te, _, _, _, _, _, h, _⟩
  cases te <;> simp [ExRel] at h

theorem TO.step' {ops : List Oper} {m m' : M} {a : Act} (s : Step m m') (h : wpList P all (Post m' n K) ops a m'.w) : wpList P all (Post m n K) ops a m'.w :=
  wpList_mono (fun _ _ _ hp => hp.step s) (fun _ _ => Post.not_outgrown) ops a m'.w h

/-- The guard: passed over, or carried out. -/
def wantB (all : Array Oper) (env : Env) (g : Option (Nat × Bool)) : Option Bool :=
  match g with
  | none => some true
  | some (j, want) => match (all[j]?).bind (·.dst) with
    | some d => match env.look d with
      | some (.t (.v (.bool b))) => some (b == want)
      | some (.t (.v (.tuple _))) => some false
      | _ => none
    | none => none

theorem wanted_of {m : M} {a : Act} {o : Oper} {c : Bool} (he : ERel m n env a.tmps) (h : wantB all env o.guard = some c) : Region.wanted o (yielded all a.tmps) = c := by
  unfold Region.wanted
  cases hg : o.guard with
  | none => rw [hg] at h; simp [wantB] at h; simp [h]
  | some g =>
    obtain ⟨j, want⟩ := g
    rw [hg] at h
    simp only [wantB] at h
    simp only [yielded]
    cases hd : (all[j]?).bind (·.dst) with
    | none => rw [hd] at h; cases h
    | some d =>
      rw [hd] at h
      simp only [] at h
      cases hv : env.look d with
      | none => rw [hv] at h; cases h
      | some v =>
        rw [hv] at h
        obtain ⟨x, h1, h2⟩ := he.2 d v hv
        split at h
        · rename_i b heq
          cases heq
          have := h2.v_eq
          subst this
          simp only [Option.some.injEq] at h
          subst h
          simp [h1]
        · rename_i arr heq
          cases heq
          have := h2.v_eq
          subst this
          simp only [Option.some.injEq] at h
          subst h
          simp [h1]
        · cases h

theorem TO.want {d : Option Tmp} {op : Op} {ty : TypeId} {pos : String} {aft : Array Edge} {g : Nat × Bool} (hw : wantB all env (some g) = some true)
    (k : TO q P n all (⟨d, op, ty, pos, aft, none⟩ :: rest) env H K) : TO q P n all (⟨d, op, ty, pos, aft, some g⟩ :: rest) env H K := by
  intro m a h1 h2 h3 h4
  have h := k m a h1 h2 h3 h4
  have hw' := wanted_of (o := ⟨d, op, ty, pos, aft, some g⟩) (all := all) h3 hw
  cases q with
  | false =>
    simp only at h ⊢
    unfold wpList at h ⊢
    rw [if_pos hw']
    simp only [Region.wanted, if_true] at h
    rcases h with h | ⟨_, a0, w0, h0⟩
    · exact .inl h
    · exact absurd h0 Post.not_outgrown
  | true =>
    simp only at h ⊢
    unfold wpQuiet at h ⊢
    rw [if_pos hw']
    simp only [Region.wanted, if_true] at h
    exact h

theorem TO.pass {d : Nat} {op : Op} {ty : TypeId} {pos : String} {aft : Array Edge} {g : Nat × Bool} (hd : Nat.ble (d + 1) n = true) (hw : wantB all env (some g) = some false)
    (k : TO q P n all rest ((d, .t (.v undef)) :: env) H K) : TO q P n all (⟨some d, op, ty, pos, aft, some g⟩ :: rest) env H K := by
  intro m a h1 h2 h3 h4
  have hw' := wanted_of (o := ⟨some d, op, ty, pos, aft, some g⟩) (all := all) h3 hw
  have hk := k m _ h1 h2 (h3.put d (Nat.le_of_ble_eq_true hd) (.t _ _ (.v undef))) (by simpa [Act.put] using h4)
  cases q with
  | false =>
    simp only at hk ⊢
    unfold wpList
    rw [if_neg (by rw [hw']; exact Bool.false_ne_true)]
    exact hk
  | true =>
    simp only at hk ⊢
    unfold wpQuiet
    rw [if_neg (by rw [hw']; exact Bool.false_ne_true)]
    exact hk

theorem TO.pass0 {op : Op} {ty : TypeId} {pos : String} {aft : Array Edge} {g : Nat × Bool} (hw : wantB all env (some g) = some false)
    (k : TO q P n all rest env H K) : TO q P n all (⟨none, op, ty, pos, aft, some g⟩ :: rest) env H K := by
  intro m a h1 h2 h3 h4
  have hw' := wanted_of (o := ⟨none, op, ty, pos, aft, some g⟩) (all := all) h3 hw
  have hk := k m _ h1 h2 h3 h4
  cases q with
  | false =>
    simp only at hk ⊢
    unfold wpList
    rw [if_neg (by rw [hw']; exact Bool.false_ne_true)]
    exact hk
  | true =>
    simp only at hk ⊢
    unfold wpQuiet
    rw [if_neg (by rw [hw']; exact Bool.false_ne_true)]
    exact hk

/-- The guard is a Bool that is not known: two ways. -/
theorem TO.guard {o : Oper} {c : Bool} (hw : wantB all env o.guard = some c) (ht : c = true → TO q P n all (o :: rest) env H K) (hf : c = false → TO q P n all (o :: rest) env H K) : TO q P n all (o :: rest) env H K := by
  cases c
  · exact hf rfl
  · exact ht rfl

/-- An operation that yields a value and leaves the world alone. -/
theorem TO.op {d : Nat} {op : Op} {ty : TypeId} {pos : String} {aft : Array Edge} {v : SV} (hd : Nat.ble (d + 1) n = true)
    (h : ∀ (m : M) (a : Act), m.H = H → HRel m → ERel m n env a.tmps → ∃ x, (∀ w', Keeps m.w w' → (execOp a.eval ⟨some d, op, ty, pos, aft, none⟩).run P w' = .ok (.value x) w') ∧ SRel m v x)
    (k : TO q P n all rest ((d, v) :: env) H K) : TO q P n all (⟨some d, op, ty, pos, aft, none⟩ :: rest) env H K := by
  intro m a h1 h2 h3 h4
  obtain ⟨x, hx, hr⟩ := h m a h1 h2 h3
  have hk := k m _ h1 h2 (h3.put d (Nat.le_of_ble_eq_true hd) hr) (by simpa [Act.put] using h4)
  cases q with
  | false =>
    refine wpList_plain rfl fun K' hK => ?_
    unfold Oper.wp
    rw [hx m.w ⟨rfl, rfl, rfl, Nat.le_refl _, fun _ _ => rfl⟩]
    simp only [Oper.upon]
    exact hK _ _ hk
  | true =>
    simp only at hk ⊢
    unfold wpQuiet
    simp only [Region.wanted, if_true]
    exact ⟨x, fun w' hw' => by unfold Oper.quietAt; rw [hx w' hw']; exact ⟨rfl, rfl⟩, hk⟩

theorem Keeps.cell {w w' : World} (k : Keeps w w') {b o : Nat} (hb : b < w.heap.size) : w'.cell? ⟨b, o, none⟩ = w.cell? ⟨b, o, none⟩ := by simp [World.cell?, k.block b hb]

variable {d : Nat} {ty : TypeId} {pos : String} {aft : Array Edge}

theorem TO.move {x : Operand} {v : SV} (hd : Nat.ble (d + 1) n = true) (hx : env.val x = some v) (k : TO q P n all rest ((d, v) :: env) H K) : TO q P n all (⟨some d, .move x, ty, pos, aft, none⟩ :: rest) env H K :=
  TO.op hd (fun m a h1 h2 h3 => ⟨_, fun _ _ => rfl, h3.val hx⟩) k

theorem TO.assign {x : Operand} {v : SV} (hd : Nat.ble (d + 1) n = true) (hx : env.val x = some v) (k : TO q P n all rest ((d, v) :: env) H K) : TO q P n all (⟨some d, .assign x, ty, pos, aft, none⟩ :: rest) env H K :=
  TO.op hd (fun m a h1 h2 h3 => ⟨_, fun _ _ => rfl, h3.val hx⟩) k

theorem TO.assign_nil (sz : Nat) (hd : Nat.ble (d + 1) n = true) (k : TO q P n all rest ((d, .t (.sl sz [])) :: env) H K) : TO q P n all (⟨some d, .assign (.const (.slice none 0 0)), ty, pos, aft, none⟩ :: rest) env H K :=
  TO.op hd (fun m a h1 h2 h3 => ⟨_, fun _ _ => rfl, .t _ _ (.nil sz)⟩) k

theorem TO.move_nil (sz : Nat) (hd : Nat.ble (d + 1) n = true) (k : TO q P n all rest ((d, .t (.sl sz [])) :: env) H K) : TO q P n all (⟨some d, .move (.const (.slice none 0 0)), ty, pos, aft, none⟩ :: rest) env H K :=
  TO.op hd (fun m a h1 h2 h3 => ⟨_, fun _ _ => rfl, .t _ _ (.nil sz)⟩) k

theorem TO.pick {c x y : Operand} {b : Bool} {v : SV} (hd : Nat.ble (d + 1) n = true) (hc : env.val c = some (.t (.v (.bool b)))) (hx : (bif b then env.val x else env.val y) = some v)
    (k : TO q P n all rest ((d, v) :: env) H K) : TO q P n all (⟨some d, .pick c x y, ty, pos, aft, none⟩ :: rest) env H K :=
  TO.op hd (fun m a h1 h2 h3 => by
    have h := (h3.val hc).v_eq
    refine ⟨if b then a.eval x else a.eval y, ?_, ?_⟩
    · intro w' _; simp [execOp, h, asBool]
    · cases b
      · exact h3.val hx
      · exact h3.val hx) k

/-- The operators on integers, strings and Bools. -/
def binEval : BinOp → Value → Value → Option Value
  | .add, .int .i64 a, .int .i64 b => some (.int .i64 (IntKind.i64.wrap (a + b)))
  | .sub, .int .i64 a, .int .i64 b => some (.int .i64 (IntKind.i64.wrap (a - b)))
  | .mul, .int .i64 a, .int .i64 b => some (.int .i64 (IntKind.i64.wrap (a * b)))
  | .eql, .int k a, .int k' b => if k = k' then some (.bool (a == b)) else none
  | .neq, .int k a, .int k' b => if k = k' then some (.bool (a != b)) else none
  | .lss, .int k a, .int k' b => if k = k' then some (.bool (decide (a < b))) else none
  | .leq, .int k a, .int k' b => if k = k' then some (.bool (decide (a ≤ b))) else none
  | .gtr, .int k a, .int k' b => if k = k' then some (.bool (decide (b < a))) else none
  | .geq, .int k a, .int k' b => if k = k' then some (.bool (decide (b ≤ a))) else none
  | .add, .int k a, .int k' b => if k = k' then some (.int k (k.wrap (a + b))) else none
  | .sub, .int k a, .int k' b => if k = k' then some (.int k (k.wrap (a - b))) else none
  | .mul, .int k a, .int k' b => if k = k' then some (.int k (k.wrap (a * b))) else none
  | .eql, .string a, .string b => some (.bool (a.data.toList == b.data.toList))
  | .neq, .string a, .string b => some (.bool (!(a.data.toList == b.data.toList)))
  | .lss, .string a, .string b => some (.bool (Op.bytesLess a.data.toList b.data.toList))
  | .leq, .string a, .string b => some (.bool (Op.bytesLess a.data.toList b.data.toList || a.data.toList == b.data.toList))
  | .gtr, .string a, .string b => some (.bool (!(Op.bytesLess a.data.toList b.data.toList || a.data.toList == b.data.toList)))
  | .geq, .string a, .string b => some (.bool (!(Op.bytesLess a.data.toList b.data.toList)))
  | _, _, _ => none

theorem binEval_run {op : BinOp} {t : TypeId} {x y : Operand} {a b z : Value} {w : World} (h : binEval op a b = some z) :
    ((do eqGuard op t x y a b; binOp op t a b) : Sem Value).run P w = .ok z w := by
  cases a <;> cases b <;> (try (cases op <;> simp [binEval] at h; done))
  · rename_i k a k' b
    by_cases hk : k = k'
    · subst hk
      cases op <;> (try (simp [binEval] at h; done)) <;> (try (cases k <;> simp [binEval] at h <;> subst h <;> simp [eqGuard, binOp, Op.intArith, Op.intCmp]; done))
    · cases op <;> (try (simp [binEval, hk] at h; done)) <;> (cases k <;> cases k' <;> simp [binEval] at h hk)
  · cases op <;> (try (simp [binEval] at h; done)) <;> simp only [binEval, Option.some.injEq] at h <;> subst h <;> simp [eqGuard, binOp, Op.stringOp, ByteArray.toList_eq]

end rules
end Go.TL
