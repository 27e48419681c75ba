/-
  How the relations of the T-layer are carried along a run; the rules of control.
-/
import Derived.Test.YthlcadlnomnmkaaTa
set_option linter.unusedVariables false
set_option linter.unusedSimpArgs false
namespace Go.TL
open Go

theorem TRel.mono {A A' : Foot} {w w' : World} (hA : ∀ b o, A b o → A' b o) (hw : ∀ b o, A b o → w'.cell? ⟨b, o, none⟩ = w.cell? ⟨b, o, none⟩) :
    ∀ {t : T} {x : Value}, TRel A w t x → TRel A' w' t x := by
  intro t x h
  induction h with
  | v x => exact .v x
  | ag cs arr hs h1 _ ih => exact .ag cs arr hs h1 ih
  | nil sz => exact .nil sz
  | empty sz a => exact .empty sz a
  | sl sz es b off cap f hcap hsz hA' hw' h1 _ ih =>
    exact .sl sz es b off cap f hcap hsz (fun i j hi hj => hA _ _ (hA' i j hi hj)) (fun i j hi hj => by rw [hw _ _ (hA' i j hi hj)]; exact hw' i j hi hj) h1 ih

theorem Step.Acell {m m' : M} (hm : HRel m) (s : Step m m') (b o : Nat) (h : m.A b o) : m'.w.cell? ⟨b, o, none⟩ = m.w.cell? ⟨b, o, none⟩ :=
  s.cell b o (hm.inA b o h) (hm.still b o h)

theorem Step.trel {m m' : M} (hm : HRel m) (s : Step m m') {t : T} {x : Value} (h : TRel m.A m.w t x) : TRel m'.A m'.w t x :=
  h.mono s.more (s.Acell hm)

theorem IdStep.noTail {h h' : Option Blk} {p p' : Place} (s : IdStep h h' p p') (hn : ∀ n, tlOf h ≠ some n) : p' = p ∧ ∀ n, tlOf h' ≠ some n := by
  unfold IdStep at s
  split at s
  · rename_i n e; exact absurd e (hn n)
  · exact s

theorem IdStep.trans {a b c : Option Blk} {p q r : Place} (h : IdStep a b p q) (k : IdStep b c q r) (hb : ∀ n, tlOf a = some n → (∀ n', tlOf b ≠ some n') → ∀ n', tlOf c ≠ some n') : IdStep a c p r := by
  unfold IdStep at h ⊢
  split at h
  · rename_i n e
    intro n' hc
    by_cases hx : ∃ n1, tlOf b = some n1
    · obtain ⟨n1, hn1⟩ := hx
      simp only [IdStep, hn1] at k
      have h1 := h n1 hn1
      have h2 := k n' hc
      refine ⟨by omega, fun e => ?_⟩
      rw [h2.2 (by omega), h1.2 (by omega)]
    · exact absurd hc (hb n e (fun n' e => hx ⟨n', e⟩) n')
  · have h2 := k.noTail h.2
    exact ⟨by rw [h2.1, h.1], h2.2⟩

theorem Step.srel {m m' : M} (hm : HRel m) (s : Step m m') : ∀ {v : SV} {x : Value}, SRel m v x → SRel m' v x := by
  intro v x h
  induction h with
  | t t x h => exact .t t x (s.trel hm h)
  | sl sz es id x p h hp ho =>
    obtain ⟨p', hp', hi⟩ := s.ids id p hp
    refine .sl sz es id x p' (s.trel hm h) hp' fun n hn => ?_
    unfold IdStep at hi
    split at hi
    · rename_i n0 h0
      have h1 := hi n hn
      have h2 := ho n0 h0
      refine ⟨by omega, fun e => ?_⟩
      have : n0 = n := by omega
      rw [h1.2 this]
      exact h2.2 (by omega)
    · exact absurd hn (hi.2 n)
  | rw id len x p hp hx ho =>
    obtain ⟨p', hp', hi⟩ := s.ids id p hp
    refine .rw id len x p' hp' hx fun n hn => ?_
    unfold IdStep at hi
    split at hi
    · rename_i n0 h0
      have h1 := hi n hn
      have h2 := ho n0 h0
      refine ⟨by omega, fun e => ?_⟩
      have : n0 = n := by omega
      rw [h1.2 this]
      exact h2.2 (by omega)
    · exact absurd hn (hi.2 n)
  | tref e n id off p hp hn h0 hs =>
    obtain ⟨p', hp', hi⟩ := s.ids id p hp
    obtain ⟨rfl, h2⟩ := hi.noTail hn
    exact .tref e n id off p' hp' h2 h0 (s.shape _ _ hs)
  | ms sz id off len cap p hp hn hc hh =>
    obtain ⟨p', hp', hi⟩ := s.ids id p hp
    obtain ⟨rfl, h2⟩ := hi.noTail hn
    exact .ms sz id off len cap p' hp' h2 hc hh
  | cp cs off b o f h1 hA hw h =>
    exact .cp cs off b o f h1 (fun j hj => s.more _ _ (hA j hj)) (fun j hj => by rw [s.Acell hm _ _ (hA j hj)]; exact hw j hj) (fun j c hc => s.trel hm (h j c hc))
  | ref id off p hp hn =>
    obtain ⟨p', hp', hi⟩ := s.ids id p hp
    obtain ⟨rfl, h2⟩ := hi.noTail hn
    exact .ref id off p' hp' h2
  | mp id p hp hn =>
    obtain ⟨p', hp', hi⟩ := s.ids id p hp
    obtain ⟨rfl, h2⟩ := hi.noTail hn
    exact .mp id p' hp' h2
  | ag cs arr hs h1 _ ih => exact .ag cs arr hs h1 ih
  | tup cs arr hs _ ih => exact .tup cs arr hs ih
  | fn f cs arr hs _ ih => exact .fn f cs arr hs ih
  | ifc ty s x _ ih => exact .ifc ty s x ih
  | any x => exact .any x

theorem IdStep.refl (h : Option Blk) (p : Place) : IdStep h h p p := by
  unfold IdStep
  split
  · rename_i n h0; intro n' e; rw [h0] at e; cases e; exact ⟨Nat.le_refl _, fun _ => rfl⟩
  · rename_i hn; exact ⟨rfl, fun n e => by rw [hn] at e; cases e⟩

theorem Step.refl (m : M) : Step m m :=
  ⟨rfl, rfl, rfl, Nat.le_refl _, fun _ _ h => h, fun _ _ h => .inl h, fun _ _ h => .inl h, fun _ _ _ _ => rfl, fun _ _ _ _ _ => rfl, fun _ _ _ => rfl, fun _ _ h => h, fun _ _ _ h => h, fun i p hp => ⟨p, hp, IdStep.refl _ _⟩⟩

theorem Step.trans {a b c : M} (h : Step a b) (k : Step b c) : Step a c where
  os := k.os.trans h.os
  tape := k.tape.trans h.tape
  output := k.output.trans h.output
  size := Nat.le_trans h.size k.size
  more := fun x o hx => k.more _ _ (h.more _ _ hx)
  fromA := fun x o hx => by
    rcases k.fromA x o hx with h1 | h1 | h1
    · exact h.fromA x o h1
    · rcases h.fromO x o h1 with h2 | h2
      · exact .inr (.inl h2)
      · exact .inr (.inr h2)
    · exact .inr (.inr (Nat.le_trans h.size h1))
  fromO := fun x o hx => by
    rcases k.fromO x o hx with h1 | h1
    · exact h.fromO x o h1
    · exact .inr (Nat.le_trans h.size h1)
  cell := fun x o hx hn => by
    rw [k.cell x o (Nat.lt_of_lt_of_le hx h.size) (fun ho => ?_), h.cell x o hx hn]
    rcases h.fromO x o ho with h1 | h1
    · exact hn h1
    · omega
  frozen := fun x o hx hn hc => by
    rw [k.frozen x o (Nat.lt_of_lt_of_le hx h.size) (fun ho => ?_) (h.isSome x o hx hc), h.frozen x o hx hn hc]
    rcases h.fromO x o ho with h1 | h1
    · exact hn h1
    · omega
  block := fun x hx hn => by
    rw [k.block x (Nat.lt_of_lt_of_le hx h.size) (fun o ho => ?_), h.block x hx hn]
    rcases h.fromO x o ho with h1 | h1
    · exact hn o h1
    · omega
  shape := fun b s hs => k.shape b s (h.shape b s hs)
  isSome := fun x o hx hs => k.isSome x o (Nat.lt_of_lt_of_le hx h.size) (h.isSome x o hx hs)
  ids := fun i p hp => by
    obtain ⟨p1, hp1, h1⟩ := h.ids i p hp
    obtain ⟨p2, hp2, h2⟩ := k.ids i p1 hp1
    refine ⟨p2, hp2, h1.trans h2 fun n hn hb => ?_⟩
    exact (h2.noTail hb).2

theorem Env.look_cons_same (i : Nat) (v : SV) (r : Env) : Env.look ((i, v) :: r) i = some v := by simp [Env.look]
theorem Env.look_cons_other {i j : Nat} (v : SV) (r : Env) (h : j ≠ i) : Env.look ((j, v) :: r) i = r.look i := by
  have : Nat.beq j i = false := by
    cases hb : Nat.beq j i with
    | false => rfl
    | true => exact absurd (Nat.eq_of_beq_eq_true hb) h
  simp [Env.look, this]

theorem ERel.step {m m' : M} {n : Nat} {env : Env} {tmps : Array Value} (h : ERel m n env tmps) (hm : HRel m) (s : Step m m') : ERel m' n env tmps :=
  ⟨h.1, fun i v hv => let ⟨x, h1, h2⟩ := h.2 i v hv; ⟨x, h1, s.srel hm h2⟩⟩

theorem ERel.put {m : M} {n : Nat} {env : Env} {a : Act} {v : SV} {x : Value} (d : Nat) (h : ERel m n env a.tmps) (hd : d < n) (hv : SRel m v x) : ERel m n ((d, v) :: env) (a.put (some d) x).tmps := by
  refine ⟨by simp [Act.put, h.1], fun i u hu => ?_⟩
  by_cases hi : d = i
  · subst hi
    rw [Env.look_cons_same] at hu
    cases hu
    exact ⟨x, by simp [Act.put, h.1, hd], hv⟩
  · rw [Env.look_cons_other _ _ hi] at hu
    obtain ⟨y, h1, h2⟩ := h.2 i u hu
    exact ⟨y, by simp [Act.put, Array.getElem?_setIfInBounds, hi, h1], h2⟩

theorem ERel.sub {m : M} {n : Nat} {env env' : Env} {tmps : Array Value} (h : ERel m n env tmps) (hs : ∀ i v, env'.look i = some v → env.look i = some v) : ERel m n env' tmps :=
  ⟨h.1, fun i v hv => h.2 i v (hs i v hv)⟩

/-- All slots that env' names are as in env. -/
def Env.sub (env : Env) : Env → Prop
  | [] => True
  | (i, v) :: r => env.look i = some v ∧ Env.sub env r

theorem Env.sub_look {env : Env} : ∀ {env' : Env}, env.sub env' → ∀ i v, env'.look i = some v → env.look i = some v
  | [], _, i, v, h => by simp [Env.look] at h
  | (k, u) :: r, hs, i, v, h => by
    by_cases hi : k = i
    · subst hi
      rw [Env.look_cons_same] at h
      cases h
      exact hs.1
    · rw [Env.look_cons_other _ _ hi] at h
      exact Env.sub_look hs.2 i v h

section rules
variable {P : Program} {n : Nat} {env : Env} {H : Heap} {K : TK}

theorem Post.step {m m' : M} {K : TK} (s : Step m m') {e : Exit} {a : Act} {w : World} (h : Post m' n K e a w) : Post m n K e a w :=
  let ⟨m2, env2, te, h1, h2, h3⟩ := h; ⟨m2, env2, te, h1, s.trans h2, h3⟩

theorem Post.mono {m : M} {K K' : TK} (hk : ∀ te env H, K te env H → K' te env H) {e : Exit} {a : Act} {w : World} (h : Post m n K e a w) : Post m n K' e a w :=
  let ⟨m2, env2, te, h1, h2, h3, h4, h5, h6, h7⟩ := h; ⟨m2, env2, te, h1, h2, h3, h4, h5, h6, hk _ _ _ h7⟩

theorem TR.mono {c : Code} {K' : TK} (h : TR P n c env H K) (hk : ∀ te env H, K te env H → K' te env H) : TR P n c env H K' :=
  fun m a h1 h2 h3 h4 => wp_mono (h m a h1 h2 h3 h4) fun _ _ _ hp => hp.mono hk

theorem TR.sub {c : Code} (env' : Env) (hs : env.sub env') (h : TR P n c env' H K) : TR P n c env H K :=
  fun m a h1 h2 h3 h4 => h m a h1 h2 (h3.sub (Env.sub_look hs)) h4

theorem TR.skip (h : K .normal env H) : TR P n .skip env H K :=
  fun m a h1 h2 h3 h4 => wp_skip ⟨m, env, .normal, rfl, .refl m, h2, h3, h4, trivial, h1 ▸ h⟩

theorem TR.exit {id : Nat} (h : K (.exit id) env H) : TR P n (.exit id) env H K :=
  fun m a h1 h2 h3 h4 => wp_exit ⟨m, env, .exit id, rfl, .refl m, h2, h3, h4, rfl, h1 ▸ h⟩

theorem TR.ret (h : K .ret env H) : TR P n .ret env H K :=
  fun m a h1 h2 h3 h4 => wp_ret ⟨m, env, .ret, rfl, .refl m, h2, h3, h4, trivial, h1 ▸ h⟩

/-- What follows a piece of code: another one, if it ends normally. -/
def Then (P : Program) (n : Nat) (c : Code) (K : TK) : TK
  | .normal, env, H => TR P n c env H K
  | e, env, H => K e env H

theorem ExRel.normal {m : M} {te : TExit} (h : ExRel m te .normal) : te = .normal := by
  cases te <;> simp [ExRel] at h; rfl

theorem ExRel.not_normal {m : M} {e : Exit} (h : ExRel m .normal e) : e = .normal := by
  cases e <;> simp [ExRel] at h; rfl

theorem wp_of_post {m : M} {c : Code} {a : Act} {w : World} (hm : m.w = w) (h : c.wp P (Post m n K) a m.w) : c.wp P (Post m n K) a w := hm ▸ h

theorem Post.then {m : M} {c : Code} {e : Exit} {a : Act} {w : World} (h : Post m n (Then P n c K) e a w) : Exit.then (c.wp P (Post m n K)) (Post m n K) e a w := by
  obtain ⟨m2, env2, te, h1, h2, h3, h4, h5, h6, h7⟩ := h
  cases e with
  | normal =>
    cases ExRel.normal h6
    show c.wp P (Post m n K) a w
    rw [← h1]
    exact wp_mono (h7 m2 a rfl h3 h4 h5) fun _ _ _ hp => hp.step h2
  | _ =>
    refine ⟨m2, env2, te, h1, h2, h3, h4, h5, h6, ?_⟩
    cases te <;> simp [ExRel] at h6 <;> exact h7

theorem TR.seq {x y : Code} (h : TR P n x env H (Then P n y K)) : TR P n (.seq x y) env H K :=
  fun m a h1 h2 h3 h4 => wp_seq (wp_mono (h m a h1 h2 h3 h4) fun _ _ _ hp => hp.then)

/-- What an operand is. -/
def Env.val (env : Env) : Operand → Option SV
  | .tmp i => env.look i
  | .const (.agg _) => none
  | .const v => some (.t (.v v))
  | .func f => some (.fn f [])
  | .global _ => none

theorem ERel.val {m : M} {a : Act} (h : ERel m n env a.tmps) {x : Operand} {v : SV} (hx : env.val x = some v) : SRel m v (a.eval x) := by
  cases x with
  | tmp i =>
    obtain ⟨y, h1, h2⟩ := h.2 i v hx
    simp only [Act.eval]
    rw [Array.getD_eq_getD_getElem?, h1]
    exact h2
  | const c =>
    have : v = .t (.v c) := by cases c <;> simp [Env.val] at hx <;> exact hx.symm
    subst this
    exact .t _ _ (.v c)
  | func f =>
    simp only [Env.val, Option.some.injEq] at hx
    subst hx
    exact .fn f [] #[] rfl (by simp)
  | global g => simp [Env.val] at hx

theorem SRel.v_eq {m : M} {x y : Value} (h : SRel m (.t (.v x)) y) : y = x := by
  cases h with
  | t _ _ h => cases h; rfl

theorem TR.cond {c : Operand} {x y : Code} {b : Bool} (hc : env.val c = some (.t (.v (.bool b)))) (ht : b = true → TR P n x env H K) (hf : b = false → TR P n y env H K) :
    TR P n (.cond c x y) env H K :=
  fun m a h1 h2 h3 h4 => wp_cond_split (h3.val hc).v_eq (fun e => ht e m a h1 h2 h3 h4) (fun e => hf e m a h1 h2 h3 h4)

/-- What an exit from a block becomes. -/
def InBlock (id : Nat) (K : TK) : TK
  | .exit j, env, H => if j = id then K .normal env H else K (.exit j) env H
  | e, env, H => K e env H

theorem TR.block {id : Nat} {c : Code} (h : TR P n c env H (InBlock id K)) : TR P n (.block id c) env H K := by
  intro m a h1 h2 h3 h4
  refine wp_block (wp_mono (h m a h1 h2 h3 h4) ?_)
  rintro e a' w' ⟨m2, env2, te, g1, g2, g3, g4, g5, g6, g7⟩
  cases te with
  | exit j =>
    cases e <;> simp [ExRel] at g6
    subst g6
    simp only [Exit.inBlock]
    simp only [InBlock] at g7
    split
    · rename_i hj; rw [if_pos hj] at g7; exact ⟨m2, env2, .normal, g1, g2, g3, g4, g5, trivial, g7⟩
    · rename_i hj; rw [if_neg hj] at g7; exact ⟨m2, env2, .exit j, g1, g2, g3, g4, g5, rfl, g7⟩
  | normal => cases e <;> simp [ExRel] at g6; exact ⟨m2, env2, .normal, g1, g2, g3, g4, g5, trivial, g7⟩
  | ret => cases e <;> simp [ExRel] at g6; exact ⟨m2, env2, .ret, g1, g2, g3, g4, g5, trivial, g7⟩
  | panic v =>
    cases e with
    | panic ch => exact ⟨m2, env2, .panic v, g1, g2, g3, g4, g5, g6, g7⟩
    | _ => simp [ExRel] at g6

theorem Steps.behind {m1 m2 t : Machine} (h : step P m1 = .next m2) (s : Steps P m1 t) (hne : t ≠ m1) : Steps P m2 t := by
  obtain ⟨k, hk⟩ := s
  cases k with
  | zero => simp only [runN, Stepped.next.injEq] at hk; exact absurd hk.symm hne
  | succ k => simp only [runN, h] at hk; exact ⟨k, hk⟩

theorem exitTo_short {id : Nat} : ∀ {k k' : List Item}, exitTo id k = some k' → k'.length ≤ k.length
  | [], _, h => by simp [exitTo] at h
  | x :: r, k', h => by
    cases x <;> simp only [exitTo] at h <;> first
      | (split at h
         · cases h; simp
         · have := exitTo_short h; simp; omega)
      | (have := exitTo_short h; simp; omega)
      | (cases h)

theorem lone_todo {b : Frame} {a a' : Act} {k k' : List Item} {cs : List Frame} {w w' : World} (h : lone (b.at a k) cs w = lone (b.at a' k') cs w') : k = k' := by
  simp only [lone, Machine.mk.injEq, Frame.at] at h
  have h1 := h.2.1
  simp at h1
  exact h1.2.1

/-- A loop, one round ahead. -/
theorem TR.loop {c : Code} (h : TR P n c env H (Then P n (.loop c) K)) : TR P n (.loop c) env H K := by
  intro m a h1 h2 h3 h4
  have h' : c.wp P (Exit.then ((Code.loop c).wp P (Post m n K)) (Post m n K)) a m.w := wp_mono (h m a h1 h2 h3 h4) fun _ _ _ hp => hp.then
  intro b k cs
  obtain ⟨e, a', w', hq, harr⟩ := h' b (.inLoop c :: k) cs
  have pass : ∀ (e : Exit), e ≠ .normal → Post m n K e a' w' → Arrives P (lone (b.at a (.code c :: .inLoop c :: k)) cs m.w) b (.inLoop c :: k) cs e a' w' →
      ∃ e a' w', Post m n K e a' w' ∧ Arrives P (lone (b.at a (.code (.loop c) :: k)) cs m.w) b k cs e a' w' := fun e he hq harr =>
    ⟨e, a', w', hq, .of_steps (.one step_loop) (.pass (x := .inLoop c) rfl (fun _ _ => .inl he) harr)⟩
  cases e with
  | normal =>
    obtain ⟨e2, a2, w2, hq2, harr2⟩ := hq b k cs
    refine ⟨e2, a2, w2, hq2, ?_⟩
    have s1 : Steps P (lone (b.at a (.code (.loop c) :: k)) cs m.w) (lone (b.at a' (.code c :: .inLoop c :: k)) cs w') :=
      Steps.trans (.one step_loop) (Steps.trans harr (.one step_inLoop))
    have hs : step P (lone (b.at a' (.code (.loop c) :: k)) cs w') = .next (lone (b.at a' (.code c :: .inLoop c :: k)) cs w') := step_loop
    obtain ⟨m2, env2, te, _, _, _, _, _, g6, _⟩ := hq2
    cases e2 with
    | normal => exact s1.trans (Steps.behind hs harr2 fun he => by have := congrArg List.length (lone_todo he); simp at this)
    | exit id => exact fun k' hk => s1.trans (Steps.behind hs (harr2 k' hk) fun he => by have := congrArg List.length (lone_todo he); have := exitTo_short hk; simp at *; omega)
    | ret =>
      obtain ⟨todo, hst⟩ := harr2
      exact ⟨todo, s1.trans (Steps.behind hs hst fun he => by simp [lone, Frame.at] at he)⟩
    | panic ch =>
      obtain ⟨todo, hst⟩ := harr2
      exact ⟨todo, s1.trans (Steps.behind hs hst fun he => by simp [lone, Frame.at] at he)⟩
    | goto l => cases te <;> simp [ExRel] at g6
    | outgrown => cases te <;> simp [ExRel] at g6
  | exit id => exact pass _ (by simp) hq harr
  | goto l => exact pass _ (by simp) hq harr
  | ret => exact pass _ (by simp) hq harr
  | panic ch => exact pass _ (by simp) hq harr
  | outgrown => exact pass _ (by simp) hq harr

end rules
end Go.TL
