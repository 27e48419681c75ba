/-
  Calls, the function's own frame, results.
-/
import Derived.Test.YthlcadlnomnmkaaTh
set_option linter.unusedVariables false
set_option linter.unusedSimpArgs false
namespace Go.TL
open Go

/-- Whatever s stands for, c stands for, too. -/
def Le (s c : SV) : Prop := ∀ (m : M) (x : Value), SRel m s x → SRel m c x

theorem Le.refl (s : SV) : Le s s := fun _ _ h => h
theorem Le.trans {a b c : SV} (h : Le a b) (k : Le b c) : Le a c := fun m x hx => k m x (h m x hx)
theorem Le.own (sz : Nat) (es : List T) (id : Nat) : Le (.sl sz es id) (.t (.sl sz es)) := fun m x h => .t _ _ (h.elems (sz := sz) (es := es) (by simp [SV.elems]))
theorem Le.nil (sz : Nat) : Le (.t (.v (.slice none 0 0))) (.t (.sl sz [])) := fun m x h => by have := h.v_eq; subst this; exact .t _ _ (.nil sz)
theorem Le.any (s : SV) : Le s .any := fun _ x _ => .any x
theorem Le.toT {s : SV} {t : T} (h : s.toT = some t) : Le s (.t t) := fun _ _ hx => .t _ _ (hx.toT h)

/-- A tree with nil for an empty slice. -/
inductive TLe : T → T → Prop
  | refl (t : T) : TLe t t
  | nil (sz : Nat) : TLe (.v (.slice none 0 0)) (.sl sz [])
  | ag (cs ds : List T) (h : cs.length = ds.length) (hl : ∀ (i : Nat) c d, cs[i]? = some c → ds[i]? = some d → TLe c d) : TLe (.ag cs) (.ag ds)

theorem TLe.rel {A : Foot} {w : World} {a b : T} (h : TLe a b) : ∀ x, TRel A w a x → TRel A w b x := by
  induction h with
  | refl t => exact fun _ h => h
  | nil sz => intro x h; cases h; exact .nil sz
  | ag cs ds hl _ ih =>
    intro x h
    cases h with
    | ag _ arr hs h1 hr =>
      refine .ag _ _ (by omega) h1 fun i d y hd hy => ?_
      have hi := (List.getElem?_eq_some_iff.1 hd).1
      have hc : cs[i]? = some (cs[i]'(by omega)) := List.getElem?_eq_getElem _
      exact ih i _ d hc hd y (hr i _ y hc hy)

theorem Le.tree {s : SV} {t u : T} (h : s.toT = some t) (k : TLe t u) : Le s (.t u) := fun _ _ hx => .t _ _ (k.rel _ (hx.toT h))

/-- The same, of lists. -/
def Les : List SV → List SV → Prop
  | [], [] => True
  | a :: as, b :: bs => Le a b ∧ Les as bs
  | _, _ => False

theorem Les.get : ∀ {as bs : List SV}, Les as bs → as.length = bs.length ∧ ∀ (i : Nat) a b, as[i]? = some a → bs[i]? = some b → Le a b
  | [], [], _ => by simp
  | [], _ :: _, h => by cases h
  | _ :: _, [], h => by cases h
  | a :: as, b :: bs, h => by
    obtain ⟨g1, g2⟩ := Les.get h.2
    refine ⟨by simp [g1], fun i x y hx hy => ?_⟩
    cases i with
    | zero => simp at hx hy; subst hx; subst hy; exact h.1
    | succ i => exact g2 i x y (by simpa using hx) (by simpa using hy)

theorem Les.refl : ∀ (as : List SV), Les as as
  | [] => trivial
  | a :: as => ⟨Le.refl a, Les.refl as⟩

theorem Le.tup {as bs : List SV} (h : Les as bs) : Le (.tup as) (.tup bs) := fun m x hx => by
  cases hx with
  | tup _ arr hs hr =>
    obtain ⟨g1, g2⟩ := h.get
    refine .tup _ _ (by omega) fun i b y hb hy => ?_
    have hi := (List.getElem?_eq_some_iff.1 hb).1
    have ha : as[i]? = some (as[i]'(by omega)) := List.getElem?_eq_getElem _
    exact g2 i _ b ha hb m y (hr i _ y ha hy)

theorem ARel.le {m : M} {as bs : List SV} {vs : Array Value} (h : ARel m as vs) (k : Les as bs) : ARel m bs vs := by
  obtain ⟨g1, g2⟩ := k.get
  refine ⟨by rw [h.1, g1], fun i b x hb hx => ?_⟩
  have hi := (List.getElem?_eq_some_iff.1 hb).1
  have ha : as[i]? = some (as[i]'(by omega)) := List.getElem?_eq_getElem _
  exact g2 i _ b ha hb m x (h.2 i _ x ha hx)

/-- The operands of a call. -/
def Env.vals (env : Env) : List Operand → Option (List SV)
  | [] => some []
  | x :: r => match env.val x, Env.vals env r with
    | some v, some l => some (v :: l)
    | _, _ => none

theorem ERel.vals {n : Nat} {env : Env} {m : M} {ac : Act} (g : ERel m n env ac.tmps) : ∀ (l : List Operand) (vs : List SV), env.vals l = some vs → vs.length = l.length ∧ ∀ (i : Nat) s x, vs[i]? = some s → (l.map ac.eval)[i]? = some x → SRel m s x
  | [], vs, h => by simp [Env.vals] at h; subst h; simp
  | x :: r, vs, h => by
    simp only [Env.vals] at h
    cases hx : env.val x with
    | none => rw [hx] at h; cases h
    | some v =>
      rw [hx] at h
      cases hr : env.vals r with
      | none => rw [hr] at h; cases h
      | some l =>
        rw [hr] at h; cases h
        obtain ⟨g1, g2⟩ := ERel.vals g r l hr
        refine ⟨by simp [g1], fun i s y hs hy => ?_⟩
        cases i with
        | zero => simp at hs hy; subst hs; subst hy; exact g.val hx
        | succ i => exact g2 i s y (by simpa using hs) (by simpa using hy)

section rules
variable {P : Program} {n : Nat} {env : Env} {H : Heap} {K : TK} {all : Array Oper} {rest : List Oper} {tab : Tab}
variable {d : Nat} {ty : TypeId} {pos : String} {aft : Array Edge}

theorem ARel_of {m : M} {ac : Act} (g : ERel m n env ac.tmps) {f : Operand} {fid : FuncId} {caps : List SV} {args : Array Operand} {vs : List SV} (hf : env.val f = some (.fn fid caps)) (ha : env.vals args.toList = some vs) :
    ∃ arr, ac.eval f = .func (.func fid) #[] arr ∧ ARel m (vs ++ caps) (args.map ac.eval ++ arr) := by
  have h := g.val hf
  generalize hq : ac.eval f = z at h
  cases h with
  | fn _ _ arr hs hr =>
    obtain ⟨g1, g2⟩ := g.vals _ _ ha
    refine ⟨arr, rfl, by simp [g1, hs], fun i s x hs' hx => ?_⟩
    by_cases hi : i < vs.length
    · rw [List.getElem?_append_left hi] at hs'
      rw [Array.getElem?_append_left (by simp at g1 ⊢; omega)] at hx
      exact g2 i s x hs' (by simpa using hx)
    · rw [List.getElem?_append_right (by omega)] at hs'
      rw [Array.getElem?_append_right (by simp at g1 ⊢; omega)] at hx
      exact hr _ s x hs' (by simpa [g1] using hx)

theorem call_exec {ac : Act} {f : Operand} {fid : FuncId} {arr : Array Value} {args : Array Operand} {ts : Array TypeId} {w : World} {dd : Option Tmp} (hf : ac.eval f = .func (.func fid) #[] arr) (hc : Callable P fid) :
    (execOp ac.eval ⟨dd, .call { callee := .value f, args := args, argTypes := ts }, ty, pos, aft, none⟩).run P w = .ok (.enter fid (args.map ac.eval ++ arr)) w := by
  obtain ⟨fn, h1, h2, h3⟩ := hc
  have h2' : ¬ fn.name = "runtime.NumGoroutine" := by simpa using h2
  have h3' : ¬ fn.body = none := by intro e; simp [e] at h3
  simp [execOp, resolve, hf, Deferred.ofValue, invoke, callFunc, h1, h2', h3']

/-- A call by a contract. l: which of the caller's blocks are handed over, in the callee's order. -/
theorem TO.call (l : List Nat) {Hc : Heap} {cargs : List SV} {R : Res → Heap → Prop} {f : Operand} {fid : FuncId} {caps : List SV} {args : Array Operand} {ts : Array TypeId} {vs : List SV} (hs : Sound P fid cargs Hc R) (hd : Nat.ble (d + 1) n = true)
    (hf : env.val f = some (.fn fid caps)) (ha : env.vals args.toList = some vs) (hl : Les (vs ++ caps) (rens (names l H.length) cargs)) (hu : unders Hc.length cargs = true) (hh : Hands H l Hc)
    (k : ∀ v Hc', R (.ret v) Hc' → TO false P n all rest ((d, v.ren (names l H.length)) :: env) (patch H l (Hc'.map (Blk.ren (names l H.length)))) K)
    (kp : ∀ v Hc', R (.panic v) Hc' → K (.panic (v.ren (names l H.length))) env (patch H l (Hc'.map (Blk.ren (names l H.length))))) :
    TO false P n all (⟨some d, .call { callee := .value f, args := args, argTypes := ts }, ty, pos, aft, none⟩ :: rest) env H K := by
  intro m ac h1 h2 h3 h4
  subst h1
  obtain ⟨arr, hq, har⟩ := ARel_of h3 hf ha
  have lies := lies_cut h2 hh
  have harc : ARel (cutM m l Hc) cargs (args.map ac.eval ++ arr) := by
    have h5 := har.le hl
    refine ⟨by rw [h5.1, rens_eq]; simp, fun i s x hs' hx => lies.srel_down (h5.2 i _ x (by rw [rens_eq, List.getElem?_map, hs']; rfl) hx) (unders_get hu i s hs')⟩
  have hcall := hs.2 (cutM m l Hc) _ rfl (lies.hrel h2) harc
  refine wpList_plain rfl fun K' hK => ?_
  unfold Oper.wp
  rw [call_exec hq hs.1]
  simp only [Oper.upon]
  refine Calls.mono hcall ?_
  rintro e w' ⟨mc', r, rfl, s, hmc, hr, hR⟩
  obtain ⟨st, hb⟩ := back_ok h2 hh s hmc
  have hlc : l.length ≤ mc'.H.length := by
    rw [← hmc.len]
    by_cases h0 : l.length = 0
    · omega
    · have hlt : l.length - 1 < (cutM m l Hc).β.length := by simp [cutM]; omega
      obtain ⟨p', hp', _⟩ := s.ids (l.length - 1) _ (List.getElem?_eq_getElem hlt)
      have := (List.getElem?_eq_some_iff.1 hp').1
      omega
  cases r with
  | ret v =>
    cases e with
    | returned x =>
      exact hK _ _ (TO.step' (m' := back m mc' l) st (k v mc'.H hR (back m mc' l) _ rfl hb ((h3.step h2 st).put d (Nat.le_of_ble_eq_true hd) (back_srel h2 hh hmc hlc hr)) (by simpa [Act.put] using h4)))
    | _ => simp [ResRel] at hr
  | panic v =>
    cases e with
    | panicked ch =>
      obtain ⟨x, rfl, hx⟩ := hr
      exact ⟨back m mc' l, env, .panic (v.ren (names l m.H.length)), rfl, st, hb, h3.step h2 st, h4, ⟨x, rfl, back_srel h2 hh hmc hlc hx⟩, kp v mc'.H hR⟩
    | _ => simp [ResRel] at hr

/-- The same, without a slot for the result. -/
theorem TO.call0 (l : List Nat) {Hc : Heap} {cargs : List SV} {R : Res → Heap → Prop} {f : Operand} {fid : FuncId} {caps : List SV} {args : Array Operand} {ts : Array TypeId} {vs : List SV} (hs : Sound P fid cargs Hc R)
    (hf : env.val f = some (.fn fid caps)) (ha : env.vals args.toList = some vs) (hl : Les (vs ++ caps) (rens (names l H.length) cargs)) (hu : unders Hc.length cargs = true) (hh : Hands H l Hc)
    (k : ∀ v Hc', R (.ret v) Hc' → TO false P n all rest env (patch H l (Hc'.map (Blk.ren (names l H.length)))) K)
    (kp : ∀ v Hc', R (.panic v) Hc' → K (.panic (v.ren (names l H.length))) env (patch H l (Hc'.map (Blk.ren (names l H.length))))) :
    TO false P n all (⟨none, .call { callee := .value f, args := args, argTypes := ts }, ty, pos, aft, none⟩ :: rest) env H K := by
  intro m ac h1 h2 h3 h4
  subst h1
  obtain ⟨arr, hq, har⟩ := ARel_of h3 hf ha
  have lies := lies_cut h2 hh
  have harc : ARel (cutM m l Hc) cargs (args.map ac.eval ++ arr) := by
    have h5 := har.le hl
    refine ⟨by rw [h5.1, rens_eq]; simp, fun i s x hs' hx => lies.srel_down (h5.2 i _ x (by rw [rens_eq, List.getElem?_map, hs']; rfl) hx) (unders_get hu i s hs')⟩
  have hcall := hs.2 (cutM m l Hc) _ rfl (lies.hrel h2) harc
  refine wpList_plain rfl fun K' hK => ?_
  unfold Oper.wp
  rw [call_exec hq hs.1]
  simp only [Oper.upon]
  refine Calls.mono hcall ?_
  rintro e w' ⟨mc', r, rfl, s, hmc, hr, hR⟩
  obtain ⟨st, hb⟩ := back_ok h2 hh s hmc
  have hlc : l.length ≤ mc'.H.length := by
    rw [← hmc.len]
    by_cases h0 : l.length = 0
    · omega
    · have hlt : l.length - 1 < (cutM m l Hc).β.length := by simp [cutM]; omega
      obtain ⟨p', hp', _⟩ := s.ids (l.length - 1) _ (List.getElem?_eq_getElem hlt)
      have := (List.getElem?_eq_some_iff.1 hp').1
      omega
  cases r with
  | ret v =>
    cases e with
    | returned x =>
      exact hK _ _ (TO.step' (m' := back m mc' l) st (k v mc'.H hR (back m mc' l) _ rfl hb (by simpa [Act.put] using h3.step h2 st) (by simpa [Act.put] using h4)))
    | _ => simp [ResRel] at hr
  | panic v =>
    cases e with
    | panicked ch =>
      obtain ⟨x, rfl, hx⟩ := hr
      exact ⟨back m mc' l, env, .panic (v.ren (names l m.H.length)), rfl, st, hb, h3.step h2 st, h4, ⟨x, rfl, back_srel h2 hh hmc hlc hx⟩, kp v mc'.H hR⟩
    | _ => simp [ResRel] at hr

/-- A function that is handed no blocks and hands back one value. -/
abbrev Pure (P : Program) (f : FuncId) (args : List SV) (v : SV) : Prop := Sound P f args [] fun r H' => r = .ret v ∧ H' = []

theorem hands_nil (H : Heap) : Hands H [] [] := ⟨List.nodup_nil, by simp, rfl, by simp, by simp⟩

/-- A call of such a function. -/
theorem TO.callP {cargs : List SV} {v v' : SV} {f : Operand} {fid : FuncId} {caps : List SV} {args : Array Operand} {ts : Array TypeId} {vs : List SV} (hs : Pure P fid cargs v) (hd : Nat.ble (d + 1) n = true)
    (hf : env.val f = some (.fn fid caps)) (ha : env.vals args.toList = some vs) (hl : Les (vs ++ caps) (rens (names [] H.length) cargs)) (hu : unders 0 cargs = true) (hv : v.ren (names [] H.length) = v')
    (k : TO false P n all rest ((d, v') :: env) H K) :
    TO false P n all (⟨some d, .call { callee := .value f, args := args, argTypes := ts }, ty, pos, aft, none⟩ :: rest) env H K :=
  TO.call [] hs hd hf ha hl hu (hands_nil H) (fun u Hc' h => by
    obtain ⟨h1, rfl⟩ := h
    cases h1
    rw [hv]
    simpa [patch] using k) (fun u Hc' h => by cases h.1)

end rules

mutual
theorem ren_id : ∀ (v : SV), v.ren id = v
  | .t u => rfl
  | .sl sz es i => rfl
  | .ms sz i off len => rfl
  | .cp cs off => rfl
  | .ref i off => rfl
  | .tref e n i off => rfl
  | .rw i len => rfl
  | .mp i => rfl
  | .ag cs => by simp [SV.ren, rens_id cs]
  | .tup cs => by simp [SV.ren, rens_id cs]
  | .fn f cs => by simp [SV.ren, rens_id cs]
  | .ifc ty x => by simp [SV.ren, ren_id x]
  | .any => rfl
theorem rens_id : ∀ (cs : List SV), rens id cs = cs
  | [] => rfl
  | c :: cs => by simp [rens, ren_id c, rens_id cs]
end

theorem Blk.ren_id (b : Blk) : b.ren id = b := by cases b <;> simp [Blk.ren, rens_id]

/-- All blocks name only blocks below k. -/
def blksUnder (k : Nat) : Heap → Bool
  | [] => true
  | b :: r => b.under k && blksUnder k r

theorem blksUnder_get {k : Nat} : ∀ {H : Heap}, blksUnder k H = true → ∀ (i : Nat) b, H[i]? = some b → b.under k = true
  | [], _, i, b, h => by simp at h
  | a :: H, hb, i, b, h => by
    simp only [blksUnder, Bool.and_eq_true] at hb
    cases i with
    | zero => simp at h; subst h; exact hb.1
    | succ i => exact blksUnder_get hb.2 i b (by simpa using h)

/-- The memory without the blocks from k on. -/
def M.cut (m : M) (k : Nat) : M := ⟨m.A, m.β.take k, m.H.take k, m.w⟩

theorem cut_lies {m : M} (hm : HRel m) {k : Nat} (hk : k ≤ m.H.length) (hb : blksUnder k (m.H.take k) = true) : Lies (m.cut k) m id where
  A := rfl
  w := rfl
  len := by simp [M.cut, hm.len]
  β := fun j p hp => by
    simp only [M.cut, List.getElem?_take] at hp
    split at hp
    · exact hp
    · cases hp
  H := fun j b h => by
    simp only [M.cut, List.getElem?_take] at h
    split at h
    · rw [Blk.ren_id]; exact h
    · cases h
  inj := fun i j _ _ e => e
  below := fun j b h => by
    have : (m.cut k).H.length = k := by simp [M.cut]; omega
    rw [this]
    exact blksUnder_get hb j b h

theorem cut_ok {m0 m : M} (hm : HRel m) (s : Step m0 m) {k : Nat} (hk : k ≤ m.H.length) (h0 : m0.β.length ≤ k) (hb : blksUnder k (m.H.take k) = true) : Step m0 (m.cut k) ∧ HRel (m.cut k) ∧ ∀ v x, v.under k = true → SRel m v x → SRel (m.cut k) v x := by
  have lies := cut_lies hm hk hb
  have hl : (m.cut k).H.length = k := by simp [M.cut]; omega
  refine ⟨⟨s.os, s.tape, s.output, s.size, s.more, s.fromA, fun b o h => s.fromO b o (lies.own h), s.cell, s.frozen, s.block, s.shape, s.isSome, fun i p hp => ?_⟩, lies.hrel hm, fun v x hv h => lies.srel_down (by rw [ren_id]; exact h) (by rw [hl]; exact hv)⟩
  obtain ⟨p', hp', h⟩ := s.ids i p hp
  have hi := (List.getElem?_eq_some_iff.1 hp).1
  refine ⟨p', by simp only [M.cut]; rw [List.getElem?_take, if_pos (by omega)]; exact hp', ?_⟩
  have : (m.cut k).H[i]? = m.H[i]? := by simp only [M.cut]; rw [List.getElem?_take, if_pos (by omega)]
  rw [this]; exact h

/-- What a result's variable holds. -/
def resOf (tab : Tab) (env : Env) (H : Heap) : ResultVar → Option SV
  | .tmp t => env.look t
  | .cell a ty => match env.look a, tab.get ty with
    | some (.ref id off), some i => match H[id]? with
      | some (.cells cs) => bif i.k.agg then (bif Nat.ble (off + i.size) cs.length then some (.ag ((cs.drop off).take i.size)) else none) else cs[off]?
      | _ => none
    | _, _ => none

def resAll (tab : Tab) (env : Env) (H : Heap) : List ResultVar → Option (List SV)
  | [] => some []
  | r :: rs => match resOf tab env H r, resAll tab env H rs with
    | some v, some l => some (v :: l)
    | _, _ => none

def pack : List SV → SV
  | [v] => v
  | vs => .tup vs

/-- How a function ends. -/
def RetK (tab : Tab) (rs : List ResultVar) (N : Nat) (R : Res → Heap → Prop) : TK
  | .normal, env, H => ∃ vs v k, resAll tab env H rs = some vs ∧ Le (pack vs) v ∧ N ≤ k ∧ k ≤ H.length ∧ v.under k = true ∧ blksUnder k (H.take k) = true ∧ R (.ret v) (H.take k)
  | .ret, env, H => ∃ vs v k, resAll tab env H rs = some vs ∧ Le (pack vs) v ∧ N ≤ k ∧ k ≤ H.length ∧ v.under k = true ∧ blksUnder k (H.take k) = true ∧ R (.ret v) (H.take k)
  | .panic u, env, H => ∃ v k, Le u v ∧ N ≤ k ∧ k ≤ H.length ∧ v.under k = true ∧ blksUnder k (H.take k) = true ∧ R (.panic v) (H.take k)
  | .exit _, _, _ => False

def argEnv : Nat → List SV → Env
  | _, [] => []
  | i, v :: r => (i, v) :: argEnv (i + 1) r

theorem argEnv_look : ∀ (l : List SV) (k i : Nat) (v : SV), (argEnv k l).look i = some v → k ≤ i ∧ l[i - k]? = some v
  | [], k, i, v, h => by simp [argEnv, Env.look] at h
  | a :: l, k, i, v, h => by
    by_cases hk : k = i
    · subst hk
      rw [argEnv, Env.look_cons_same] at h
      cases h
      simp
    · rw [argEnv, Env.look_cons_other _ _ hk] at h
      obtain ⟨h1, h2⟩ := argEnv_look l (k + 1) i v h
      refine ⟨by omega, ?_⟩
      rw [show i - k = (i - (k + 1)) + 1 from by omega]; exact h2

def resSem (tmps : Array Value) : ResultVar → Sem Value
  | .tmp t => pure (tmps.getD t undef)
  | .cell a t => do loadVar t (← asAddr (tmps.getD a undef))

theorem resOf_run {P : Program} {tab : Tab} (hT : TabOk P tab) {m : M} (hm : HRel m) {n : Nat} {env : Env} {tmps : Array Value} (he : ERel m n env tmps) {r : ResultVar} {v : SV} (h : resOf tab env m.H r = some v) :
    ∃ x, (resSem tmps r).run P m.w = .ok x m.w ∧ SRel m v x := by
  cases r with
  | tmp t =>
    obtain ⟨x, h1, h2⟩ := he.2 t v h
    exact ⟨x, by simp [resSem, Array.getD_eq_getD_getElem?, h1], h2⟩
  | cell a ty =>
    simp only [resOf] at h
    split at h
    · rename_i id off i hl ht
      split at h
      · rename_i cs hH
        obtain ⟨x, h1, h2⟩ := he.2 a _ hl
        cases h2 with
        | ref _ _ p hp hn =>
          have hb := hm.blk id p _ hp hH
          have hx : tmps.getD a undef = .pointer (some ⟨p.b, p.lo + off, none⟩) := by simp [Array.getD_eq_getD_getElem?, h1]
          cases hk : i.k.agg with
          | false =>
            rw [hk] at h
            simp only [cond_false] at h
            obtain ⟨y, y1, y0, y2⟩ := hb.2.2 off v h
            refine ⟨y, ?_, y2⟩
            simp [resSem, hx, asAddr, loadVar, (hT ty i ht).isAgg, hk, y1]
          | true =>
            rw [hk] at h
            simp only [cond_true] at h
            cases hle : Nat.ble (off + i.size) cs.length with
            | false => rw [hle] at h; cases h
            | true =>
              rw [hle] at h
              simp only [cond_true, Option.some.injEq] at h
              subst h
              have hc := Nat.le_of_ble_eq_true hle
              have hex : ∀ j, ∃ y, j < i.size → m.w.cell? ⟨p.b, p.lo + off + j, none⟩ = some y ∧ y.oneCell' = true ∧ ∀ c, cs[off + j]? = some c → SRel m c y := by
                intro j
                by_cases hj : j < i.size
                · have hlt : off + j < cs.length := by omega
                  obtain ⟨y, hy1, hy0, hy2⟩ := hb.2.2 (off + j) cs[off + j] (List.getElem?_eq_getElem hlt)
                  exact ⟨y, fun _ => ⟨by rw [Nat.add_assoc]; exact hy1, hy0, fun c hc => by rw [List.getElem?_eq_getElem hlt] at hc; cases hc; exact hy2⟩⟩
                · exact ⟨undef, fun h => absurd h hj⟩
              obtain ⟨f, hf⟩ := Classical.axiomOfChoice hex
              refine ⟨.agg ((List.range i.size).map f).toArray, ?_, .ag _ _ (by simp; omega) (fun j y hy => ?_) fun j c y hc' hy => ?_⟩
              · have := loadAt_agg hT ht hk (w := m.w) (fun j hj => (hf j hj).1)
                simp [Instr.loadAt, Instr.sureAddr] at this
                simp [resSem, hx, asAddr, this]
              · simp at hy
                obtain ⟨r, hr', rfl⟩ := hy
                have := List.mem_of_getElem? hr'
                simp at this
                exact (hf r this).2.1
              · rw [List.getElem?_take] at hc'
                split at hc'
                · rename_i hj
                  rw [List.getElem?_drop] at hc'
                  simp [hj] at hy
                  subst hy
                  exact (hf j hj).2.2 c hc'
                · cases hc'
      · cases h
    · cases h

theorem resAll_run {P : Program} {tab : Tab} (hT : TabOk P tab) {m : M} (hm : HRel m) {n : Nat} {env : Env} {tmps : Array Value} (he : ERel m n env tmps) : ∀ (rs : List ResultVar) (vs : List SV), resAll tab env m.H rs = some vs →
    ∃ xs : List Value, (rs.mapM (resSem tmps)).run P m.w = .ok xs m.w ∧ xs.length = vs.length ∧ ∀ (i : Nat) v x, vs[i]? = some v → xs[i]? = some x → SRel m v x
  | [], vs, h => by simp [resAll] at h; subst h; exact ⟨[], rfl, rfl, by simp⟩
  | r :: rs, vs, h => by
    simp only [resAll] at h
    cases h1 : resOf tab env m.H r with
    | none => rw [h1] at h; cases h
    | some v =>
      rw [h1] at h
      cases h2 : resAll tab env m.H rs with
      | none => rw [h2] at h; cases h
      | some l =>
        rw [h2] at h; cases h
        obtain ⟨x, hx1, hx2⟩ := resOf_run hT hm he h1
        obtain ⟨xs, g1, g2, g3⟩ := resAll_run hT hm he rs l h2
        refine ⟨x :: xs, ?_, by simp [g2], fun i v' x' hv hx => ?_⟩
        · rw [List.mapM_cons]
          simp only [Sem.run_bind, hx1, Result.andThen_ok, g1, Sem.run_pure]
        · cases i with
          | zero => simp at hv hx; subst hv; subst hx; exact hx2
          | succ i => exact g3 i v' x' (by simpa using hv) (by simpa using hx)

theorem results_run {P : Program} {tab : Tab} (hT : TabOk P tab) {m : M} (hm : HRel m) {n : Nat} {env : Env} {tmps : Array Value} (he : ERel m n env tmps) {fn : Func} {vs : List SV} (h : resAll tab env m.H fn.results.toList = some vs) :
    ∃ x, (results fn tmps).run P m.w = .ok x m.w ∧ SRel m (pack vs) x := by
  obtain ⟨xs, g1, g2, g3⟩ := resAll_run hT hm he _ _ h
  have hr : (results fn tmps).run P m.w = .ok (if h : xs.toArray.size = 1 then xs.toArray[0] else .tuple xs.toArray) m.w := by
    have hu : results fn tmps = (do
        let vs ← fn.results.mapM (resSem tmps)
        pure (if h : vs.size = 1 then vs[0] else .tuple vs) : Sem Value) := by
      unfold results
      congr 1
    rw [hu, Array.mapM_eq_mapM_toList]
    simp only [Sem.run_bind, Sem.run_map, map_eq_pure_bind, g1]
    rfl
  refine ⟨_, hr, ?_⟩
  match vs, xs, g2, g3 with
  | [v], [x], _, g3 => exact g3 0 v x rfl rfl
  | [], [], _, g3 => exact .tup _ _ rfl (by simp)
  | v1 :: v2 :: vs, x1 :: x2 :: xs, g2, g3 => exact .tup _ _ (by simpa using g2) (fun i c y hc hy => g3 i c y hc (by simpa using hy))

/-- A function, by its body. -/
theorem Sound.of {P : Program} {tab : Tab} (hT : TabOk P tab) {f : FuncId} {fn : Func} {c : Code} {args : List SV} {H : Heap} {R : Res → Heap → Prop} (hf : P.funcs[f]? = some fn) (hn : (fn.name == "runtime.NumGoroutine") = false) (hb : fn.body = some c)
    (ha : Nat.ble args.length fn.ntmps = true) (h : TR P fn.ntmps c (argEnv 0 args) H (RetK tab fn.results.toList H.length R)) : Sound P f args H R := by
  refine ⟨⟨fn, hf, hn, by rw [hb]; rfl⟩, fun m vs h1 h2 h3 => ?_⟩
  have hal := Nat.le_of_ble_eq_true ha
  refine calls_of_wp hf hb (wp_mono (h m _ h1 h2 ⟨by simp [h3.1]; omega, fun i v hv => ?_⟩ rfl) ?_)
  · obtain ⟨g1, g2⟩ := argEnv_look _ _ _ _ hv
    have hi := (List.getElem?_eq_some_iff.1 g2).1
    have hvi : vs[i]? = some (vs[i]'(by rw [h3.1]; omega)) := Array.getElem?_eq_getElem _
    exact ⟨_, by rw [Array.getElem?_append_left (by rw [h3.1]; omega)]; exact hvi, h3.2 i v _ (by simpa using g2) hvi⟩
  · rintro e a' w' ⟨m', env, te, rfl, s, hm', he, hd, hx, hK⟩
    have fin : ∀ vs v k, resAll tab env m'.H fn.results.toList = some vs → Le (pack vs) v → H.length ≤ k → k ≤ m'.H.length → v.under k = true → blksUnder k (m'.H.take k) = true → R (.ret v) (m'.H.take k) →
        ∃ v, (results fn a'.tmps).run P m'.w = .ok v m'.w ∧ ∃ (m2 : M) (r : Res), m2.w = m'.w ∧ Step m m2 ∧ HRel m2 ∧ ResRel m2 r (.returned v) ∧ R r m2.H := by
      intro vs v k g1 g2 g3 g4 g5 g6 g7
      obtain ⟨x, hr, hp⟩ := results_run hT hm' he g1
      obtain ⟨c1, c2, c3⟩ := cut_ok hm' s g4 (by rw [h2.len, h1]; exact g3) g6
      exact ⟨x, hr, m'.cut k, .ret v, rfl, c1, c2, c3 _ _ g5 (g2 _ _ hp), g7⟩
    cases te with
    | normal =>
      cases e <;> simp [ExRel] at hx
      obtain ⟨vs, v, k, g1, g2, g3, g4, g5, g6, g7⟩ := hK
      exact ⟨hd, fin vs v k g1 g2 g3 g4 g5 g6 g7⟩
    | ret =>
      cases e <;> simp [ExRel] at hx
      obtain ⟨vs, v, k, g1, g2, g3, g4, g5, g6, g7⟩ := hK
      exact ⟨hd, fin vs v k g1 g2 g3 g4 g5 g6 g7⟩
    | panic u =>
      cases e with
      | panic ch =>
        obtain ⟨x, rfl, hux⟩ := hx
        obtain ⟨v, k, g2, g3, g4, g5, g6, g7⟩ := hK
        obtain ⟨c1, c2, c3⟩ := cut_ok hm' s g4 (by rw [h2.len, h1]; exact g3) g6
        exact ⟨hd, m'.cut k, .panic v, rfl, c1, c2, ⟨x, rfl, c3 _ _ g5 (g2 _ _ hux)⟩, g7⟩
      | _ => simp [ExRel] at hx
    | exit i => exact hK.elim

theorem Sound.mono {P : Program} {f : FuncId} {args : List SV} {H : Heap} {R R' : Res → Heap → Prop} (h : Sound P f args H R) (hr : ∀ r H', R r H' → R' r H') : Sound P f args H R' :=
  ⟨h.1, fun m vs h1 h2 h3 => (h.2 m vs h1 h2 h3).mono fun e w' ⟨m', r, g1, g2, g3, g4, g5⟩ => ⟨m', r, g1, g2, g3, g4, hr _ _ g5⟩⟩

end Go.TL
