import Derived.Test.YtonjiabmcbdhdaaGreatPk12
import Derived.Test.YtonjiabmcbdhdaaGreatPk13
set_option linter.unusedVariables false
set_option linter.unusedSimpArgs false
namespace Go.Proofs.YtonjiabmcbdhdaaGreat
open Go Go.TL
attribute [local irreducible] TR TO Then InBlock RetK Sound LoopK Kf GG ThenL
def lpB (fn n : Nat) (env : Env) (ps : Array Tmp) (assign body : Code) (st : LoopState) (pe : Option Code) : Blk := .loop fn st pe n env ps assign body
theorem Each_sound (e : Ex) : Pure Tryz.prog 39 [.t (exT e)] (.fn 69 [.cp (exC e) 0]) := by
  rw [exT_eq]
  refine Sound.of tabOk Tryz.func39 (by kernel_rfl) rfl rfl ?_
  repeat' (first | refine wkt ?_ | refine wk ?_ | exact wkc | intro hc | refine wk2 ?_ ?_ | fail)
  exact wkr
def Each1R (S : EachS) (xs : List Ex) (r : Res) (H : Heap) : Prop :=
  match scanO S.f [] xs with
  | .go => r = .ret (.tup []) ∧ H = S.Hb xs ++ [S.lp .ready none]
  | .jump c H0 => r = .ret (.tup []) ∧ H = H0 ++ [S.lp .done (some c)]
  | .panic v H0 => r = .panic v ∧ H = H0 ++ [S.lp .busy none]
theorem each1_sound (S : EachS) (hS : S.ok) (e : Ex) (hW : wEx e ≤ 1000000000) (hY : ∀ pre x post, flat e = pre ++ x :: post → YSound Tryz.prog S.L0 (.t (exT x)) (S.Hb pre ++ [S.lp .ready none]) (EachR S pre [x])) :
    Sound Tryz.prog 69 [.yl S.L0, .cp (exC e) 0] (S.Hb [] ++ [S.lp .ready none]) (Each1R S (flat e)) := by
  have hs := each_sound S hS (flat e) (by rw [flat_len]; exact hW) hY (wEx e) e (Nat.le_refl _) [] [] (by simp)
  rw [exT_eq] at hs
  have hout := scanO_out hS (flat e) []
  have hHb := hS.1
  have hlp := hS.2.1
  unfold exC at *
  refine Sound.of tabOk Tryz.func69 (by kernel_rfl) rfl rfl ?_
  repeat' (first | refine wkt ?_ | refine wk ?_ | exact wkc | intro hc | refine wk2 ?_ ?_ | fail)
  refine TO.callA hs rfl rfl rfl ⟨Le.refl _, Le.refl _, trivial⟩ ?_ ?_
  · intro u H2 hr
    simp only [EachR] at hr
    cases ho : scanO S.f [] (flat e) with
    | panic v0 H0 => rw [ho] at hr; cases hr.1
    | jump c H0 =>
      rw [ho] at hr hout
      obtain ⟨h1, rfl⟩ := hr
      cases h1
      repeat' (first | refine wkt ?_ | refine wk ?_ | exact wkc | intro hc | refine wk2 ?_ ?_ | fail)
      refine RetK.atN (v := .tup []) (S.L0 + 1) rfl (Le.of_eq rfl) (by simp [(hHb _).1]) (by simp [hout.1]) rfl (blksUnder_append hout.2 (by simp [blksUnder, hlp])) ?_
      simp only [Each1R, ho]
      (first | exact ⟨trivial, rfl⟩ | exact ⟨trivial, trivial⟩)
    | go =>
      rw [ho] at hr
      obtain ⟨h1, rfl⟩ := hr
      cases h1
      repeat' (first | refine wkt ?_ | refine wk ?_ | exact wkc | intro hc | refine wk2 ?_ ?_ | fail)
      refine RetK.atN (v := .tup []) (S.L0 + 1) rfl (Le.of_eq rfl) (by simp [(hHb _).1]) (by simp [(hHb _).1]) rfl (blksUnder_append (hHb _).2 (by simp [blksUnder, hlp])) ?_
      simp only [Each1R, ho]
      (first | exact ⟨trivial, rfl⟩ | exact ⟨trivial, trivial⟩)
  · intro u H2 hr
    simp only [EachR] at hr
    cases ho : scanO S.f [] (flat e) with
    | panic v0 H0 =>
      rw [ho] at hr hout
      obtain ⟨h1, rfl⟩ := hr
      cases h1
      repeat' (first | refine wkt ?_ | refine wk ?_ | exact wkc | intro hc | refine wk2 ?_ ?_ | fail)
      refine RetK.atP (S.L0 + 1) ?_ ?_ hout.1 ?_ ?_
      · simp [(hHb _).1]
      · simp [hout.2.1]
      · exact blksUnder_append hout.2.2 (by simp [blksUnder, hlp])
      simp only [Each1R, ho]
      (first | exact ⟨trivial, rfl⟩ | exact ⟨trivial, trivial⟩)
    | jump c H0 => rw [ho] at hr; cases hr.1
    | go => rw [ho] at hr; cases hr.1
def RoundK (L0 : Nat) (lb : Blk) (Hb : List Ex → Heap) (f : List Ex → Ex → Out) (pre : List Ex) (x : Ex) : TK
  | .normal, _, H => f pre x = .go ∧ H.take L0 = Hb (pre ++ [x]) ∧ H[L0]? = some lb
  | .ret, _, H => ∃ H0, f pre x = .jump .ret H0 ∧ H.take L0 = H0 ∧ H[L0]? = some lb
  | .exit i, _, H => ∃ H0, f pre x = .jump (.exit i) H0 ∧ H.take L0 = H0 ∧ H[L0]? = some lb
  | .panic v, _, H => ∃ H0, f pre x = .panic v H0 ∧ H.take L0 = H0 ∧ H[L0]? = some lb
def AsgK (P : Program) (n L0 : Nat) (lr lb : Blk) (body : Code) (Hb : List Ex → Heap) (f : List Ex → Ex → Out) (pre : List Ex) (x : Ex) : TK
  | .normal, env, H => H[L0]? = some lr ∧ TR P n body env (H.set L0 lb) (RoundK L0 lb Hb f pre x)
  | _, _, _ => False
theorem take_set_last {α : Type} {H : List α} {L : Nat} {a b : α} (h : H[L]? = some a) : (H.set L b).take (L + 1) = H.take L ++ [b] := by
  have hl := (List.getElem?_eq_some_iff.1 h).1
  rw [List.take_succ_eq_append_getElem (by simpa using hl), List.take_set, List.set_eq_of_length_le (by simp; omega)]
  simp
theorem TR.rangeEach {n : Nat} {g : Operand} {p : Tmp} {assign body : Code} {env : Env} {H : Heap} {K : TK} (e : Ex) (Hb : List Ex → Heap) (f : List Ex → Ex → Out) (hg : env.val g = some (.fn 69 [.cp (exC e) 0])) (hW : wEx e ≤ 1000000000)
    (h0 : Hb [] = H) (hp : Nat.ble (p + 1) n = true) (henv : (env.all fun x => x.2.under (H.length + 1)) = true) (hHb : ∀ pre, (Hb pre).length = H.length ∧ blksUnder (H.length + 1) (Hb pre) = true)
    (hf : ∀ pre x, match f pre x with
      | .go => True
      | .jump c H1 => H1.length = H.length ∧ blksUnder (H.length + 1) H1 = true
      | .panic v H1 => v.under (H.length + 1) = true ∧ H1.length = H.length ∧ blksUnder (H.length + 1) H1 = true)
    (round : ∀ fn pre x post, flat e = pre ++ x :: post → TR Tryz.prog n assign ((p, .t (.ag (exC x))) :: env) (Hb pre ++ [lpB fn n env #[p] assign body .ready none]) (AsgK Tryz.prog n H.length (lpB fn n env #[p] assign body .ready none) (lpB fn n env #[p] assign body .busy none) body Hb f pre x))
    (fin : ∀ fn, match scanO f [] (flat e) with
      | .go => K .normal env (Hb (flat e) ++ [.dead])
      | .jump .ret H1 => K .ret env (H1 ++ [.dead])
      | .jump (.exit i) H1 => K (.exit i) env (H1 ++ [.dead])
      | .jump _ _ => False
      | .panic v H1 => K (.panic v) env (H1 ++ [lpB fn n env #[p] assign body .busy none])) : TR Tryz.prog n (.rangeFunc g #[p] assign body) env H K := by
  refine TR.rangeFunc hg fun fn hfn => ?_
  have fin := fin fn
  have hS : EachS.ok ⟨H.length, Hb, lpB fn n env #[p] assign body, f⟩ := by
    refine ⟨hHb, fun st pe => ?_, fun pre x => hf pre x⟩
    exact henv
  have hpl : ∀ pre : List Ex, (Hb pre).length = H.length := fun pre => (hHb pre).1
  have := each1_sound ⟨H.length, Hb, lpB fn n env #[p] assign body, f⟩ hS e hW ?_
  · simp only [h0] at this
    refine Sound.mono this fun r H' hr => ?_
    simp only [Each1R] at hr
    cases ho : scanO f [] (flat e) with
    | go =>
      rw [ho] at hr fin
      obtain ⟨rfl, rfl⟩ := hr
      simp only [RangeK]
      refine ⟨fn, .ready, none, n, env, #[p], assign, body, ?_, by simp, ?_⟩
      · rw [← hpl (flat e)]; simp [lpB]
      · have : (Hb (flat e) ++ [lpB fn n env #[p] assign body LoopState.ready none]).set H.length .dead = Hb (flat e) ++ [.dead] := by rw [← hpl (flat e)]; simp
        rw [this]; exact fin
    | jump c H1 =>
      have hl := scanO_out hS (flat e) []
      rw [ho] at hr fin
      simp only [ho] at hl
      obtain ⟨rfl, rfl⟩ := hr
      simp only [RangeK]
      refine ⟨fn, .done, some c, n, env, #[p], assign, body, ?_, by simp, ?_⟩
      · rw [← hl.1]; simp [lpB]
      · have : (H1 ++ [lpB fn n env #[p] assign body LoopState.done (some c)]).set H.length .dead = H1 ++ [.dead] := by rw [← hl.1]; simp
        simp only [this]
        cases c <;> first | exact fin | exact fin.elim
    | panic v H1 =>
      rw [ho] at hr fin
      obtain ⟨rfl, rfl⟩ := hr
      exact fin
  · intro pre x post hw
    have hid : (Hb pre ++ [lpB fn n env #[p] assign body .ready none])[H.length]? = some (.loop fn .ready none n env #[p] assign body) := by rw [← hpl pre]; simp [lpB]
    refine YSound.of hfn hid hp ?_
    have h1 := round fn pre x post hw
    rw [exT_eq]
    refine TR.mono h1 fun te env2 H2 h2 => ?_
    cases te with
    | normal =>
      obtain ⟨h3, h4⟩ := h2
      refine ⟨fn, none, n, env, #[p], assign, body, h3, ?_⟩
      refine TR.mono h4 fun te env3 H3 h5 => ?_
      have hN : (Hb pre ++ [lpB fn n env #[p] assign body .ready none]).length = H.length + 1 := by simp [hpl]
      have hun : ∀ st pe, blksUnder (H.length + 1) [lpB fn n env #[p] assign body st pe] = true := fun st pe => by simp only [blksUnder, Bool.and_true]; exact henv
      cases te with
      | normal =>
        obtain ⟨g1, g2, g3⟩ := h5
        refine ⟨fn, .busy, none, n, env, #[p], assign, body, g3, ?_, ?_, ?_⟩
        · rw [hN]; exact (List.getElem?_eq_some_iff.1 g3).1
        · rw [hN, take_set_last g3, g2]; exact blksUnder_append (hHb _).2 (hun _ _)
        · rw [hN, take_set_last g3, g2]
          simp only [EachR, scanO, g1]
          (first | exact ⟨trivial, rfl⟩ | exact ⟨trivial, trivial⟩)
      | ret =>
        obtain ⟨H0, g1, g2, g3⟩ := h5
        have g4 := hf pre x
        rw [g1] at g4
        refine ⟨fn, .busy, none, n, env, #[p], assign, body, g3, ?_, ?_, ?_⟩
        · rw [hN]; exact (List.getElem?_eq_some_iff.1 g3).1
        · rw [hN, take_set_last g3, g2]; exact blksUnder_append g4.2 (hun _ _)
        · rw [hN, take_set_last g3, g2]
          simp only [EachR, scanO, g1]
          (first | exact ⟨trivial, rfl⟩ | exact ⟨trivial, trivial⟩)
      | exit i =>
        obtain ⟨H0, g1, g2, g3⟩ := h5
        have g4 := hf pre x
        rw [g1] at g4
        refine ⟨fn, .busy, none, n, env, #[p], assign, body, g3, ?_, ?_, ?_⟩
        · rw [hN]; exact (List.getElem?_eq_some_iff.1 g3).1
        · rw [hN, take_set_last g3, g2]; exact blksUnder_append g4.2 (hun _ _)
        · rw [hN, take_set_last g3, g2]
          simp only [EachR, scanO, g1]
          (first | exact ⟨trivial, rfl⟩ | exact ⟨trivial, trivial⟩)
      | panic v =>
        obtain ⟨H0, g1, g2, g3⟩ := h5
        have g4 := hf pre x
        rw [g1] at g4
        have e3 : H3.take (H.length + 1) = H0 ++ [lpB fn n env #[p] assign body .busy none] := by
          have hl := (List.getElem?_eq_some_iff.1 g3)
          rw [List.take_succ_eq_append_getElem hl.1, g2, hl.2]
        refine ⟨?_, ?_, ?_, ?_⟩
        · rw [hN]; exact g4.1
        · rw [hN]; exact (List.getElem?_eq_some_iff.1 g3).1
        · rw [hN, e3]; exact blksUnder_append g4.2.2 (hun _ _)
        · rw [hN, e3]
          simp only [EachR, scanO, g1]
          (first | exact ⟨trivial, rfl⟩ | exact ⟨trivial, trivial⟩)
    | ret => exact h2.elim
    | exit i => exact h2.elim
    | panic v => exact h2.elim
end Go.Proofs.YtonjiabmcbdhdaaGreat
set_option linter.unusedVariables false
set_option linter.unusedSimpArgs false
namespace Go.Proofs.YtonjiabmcbdhdaaGreat
open Go Go.TL
attribute [local irreducible] TR TO Then InBlock RetK Sound LoopK Kf GG ThenL
def exDepth : Ex → Int
  | .mk _ _ _ _ _ l => (l.attach.map fun x => exDepth x.1).foldl max 0 + 1
decreasing_by
  have := List.sizeOf_lt_of_mem x.2
  simp; omega
theorem exDepth_eq (e : Ex) : exDepth e = (e.args.map exDepth).foldl max 0 + 1 := by cases e; rw [exDepth]; simp [Ex.args]
theorem foldl_max_le (b : Int) : ∀ (l : List Int) (a : Int), a ≤ b → (∀ x ∈ l, x ≤ b) → l.foldl max a ≤ b
  | [], a, h, _ => h
  | x :: l, a, h, h2 => foldl_max_le b l _ (by have := h2 x List.mem_cons_self; omega) (fun y hy => h2 y (List.mem_cons_of_mem _ hy))
theorem foldl_max_ge : ∀ (l : List Int) (a : Int), a ≤ l.foldl max a
  | [], a => Int.le_refl _
  | x :: l, a => by have := foldl_max_ge l (max a x); simp only [List.foldl_cons]; omega
theorem exDepth_le (e : Ex) : 1 ≤ exDepth e ∧ exDepth e ≤ wEx e := by
  generalize hn : wEx e = n
  induction n using Nat.strongRecOn generalizing e with
  | ind n ih =>
    rw [exDepth_eq]
    have h1 := foldl_max_ge (e.args.map exDepth) 0
    have h2 : (e.args.map exDepth).foldl max 0 ≤ (n : Int) - 1 := by
      refine foldl_max_le _ _ _ (by have := wEx_pos e; omega) fun y hy => ?_
      obtain ⟨x, hx, rfl⟩ := List.mem_map.1 hy
      have := wEx_arg hx
      have := (ih (wEx x) (by omega) x rfl).2
      omega
    omega
theorem take_at {α : Type} {l : List α} {k : Nat} (h : k < l.length) : l.take (k + 1) = l.take k ++ [l[k]] := List.take_succ_eq_append_getElem h
theorem depth_sound' : ∀ (m : Nat) (e : Ex), wEx e ≤ m → wEx e ≤ 1000000000 → Pure Tryz.prog 100 [.t (exT e)] (.i (exDepth e)) := by
  intro m
  induction m with
  | zero => intro e he; have := wEx_pos e; omega
  | succ m ih0 =>
    intro e he hb
    have ih : ∀ x ∈ e.args, Pure Tryz.prog 100 [.t (exT x)] (.i (exDepth x)) := fun x hx => ih0 x (by have := wEx_arg hx; omega) (by have := wEx_arg hx; omega)
    clear ih0
    have hll := wEx_args e
    have hdl : ∀ x ∈ e.args, exDepth x ≤ 1000000000 := fun x hx => by have := (exDepth_le x).2; have := wEx_arg hx; omega
    rw [exDepth_eq, exT_eq]
    unfold exC
    generalize e.args = l at ih hll hdl ⊢
    have hml : (l.map exT).length = l.length := List.length_map _
    refine Sound.of tabOk Tryz.func100 (by kernel_rfl) rfl rfl ?_
    repeat' (first | refine wkt ?_ | refine wk ?_ | exact wkc | intro hc | refine wk2 ?_ ?_ | fail)
    refine TR.loopN l.length (fun _ => True) (fun j => [(3, .i (((l.take j).map exDepth).foldl max 0)), (7, .t (.sl 6 (l.map exT))), (8, .i l.length), (9, .i j)]) (fun _ => []) trivial (fun j hlt _ => ?_) (fun _ => ?_) ⟨rfl, rfl, by rw [← hml]; rfl, rfl, trivial⟩
    · have hx := at_exT hlt
      have hs := ih l[j] (List.getElem_mem hlt)
      rw [exT_eq] at hs
      have hk : ((l.take (j + 1)).map exDepth).foldl max 0 = max (((l.take j).map exDepth).foldl max 0) (exDepth l[j]) := by rw [take_at hlt]; simp only [List.map_append, List.map_cons, List.map_nil, List.foldl_append, List.foldl_cons, List.foldl_nil]
      generalize l[j] = x at hx hs hk
      unfold exC at hx hs
      repeat' (first | refine wkt ?_ | refine wk ?_ | exact wkc | intro hc | refine wk2 ?_ ?_ | refine wv hs ?_ | fail)
      exact LoopK.nextN hlt trivial (by (try dsimp only); rw [hk]; exact ⟨rfl, rfl, rfl, rfl, trivial⟩)
    · rw [List.take_length]
      have h1 := foldl_max_le 1000000000 (l.map exDepth) 0 (by omega) (fun y hy => by obtain ⟨x, hx, rfl⟩ := List.mem_map.1 hy; exact hdl x hx)
      have h2 := foldl_max_ge (l.map exDepth) 0
      repeat' (first | refine wkt ?_ | refine wk ?_ | exact wkc | intro hc | refine wk2 ?_ ?_ | fail)
      exact wkr
theorem depth_sound (e : Ex) (h : wEx e ≤ 1000000000) : Pure Tryz.prog 100 [.t (exT e)] (.i (exDepth e)) := depth_sound' _ e (Nat.le_refl _) h
theorem depthR_sound' : ∀ (m : Nat) (e : Ex), wEx e ≤ m → wEx e ≤ 1000000000 → Pure Tryz.prog 106 [.t (exT e)] (.i (exDepth e)) := by
  intro m
  induction m with
  | zero => intro e he; have := wEx_pos e; omega
  | succ m ih0 =>
    intro e he hb
    have ih : ∀ x ∈ e.args, Pure Tryz.prog 106 [.t (exT x)] (.i (exDepth x)) := fun x hx => ih0 x (by have := wEx_arg hx; omega) (by have := wEx_arg hx; omega)
    clear ih0
    have hll := wEx_args e
    have hdl : ∀ x ∈ e.args, exDepth x ≤ 1000000000 := fun x hx => by have := (exDepth_le x).2; have := wEx_arg hx; omega
    rw [exDepth_eq, exT_eq]
    have hc0 : exC e = [T.n e.kind, T.n e.op, T.n e.t, T.n e.v, .s e.name, .sl 6 (e.args.map exT)] := rfl
    rw [hc0]
    generalize e.args = l at ih hll hdl ⊢
    have hml : (l.map exT).length = l.length := List.length_map _
    refine Sound.of tabOk Tryz.func106 (by kernel_rfl) rfl rfl ?_
    repeat' (first | refine wkt ?_ | refine wk ?_ | exact wkc | intro hc | refine wk2 ?_ ?_ | fail)
    refine TR.loopN l.length (fun _ => True) (fun j => [(3, .i (((l.take j).map exDepth).foldl max 0)), (1, .cp [T.n e.kind, T.n e.op, T.n e.t, T.n e.v, .s e.name, .sl 6 (l.map exT)] 0), (4, .i j)]) (fun _ => []) trivial (fun j hlt _ => ?_) (fun _ => ?_)
    · have hx := at_exT hlt
      have hs := ih l[j] (List.getElem_mem hlt)
      rw [exT_eq] at hs
      have hk : ((l.take (j + 1)).map exDepth).foldl max 0 = max (((l.take j).map exDepth).foldl max 0) (exDepth l[j]) := by rw [take_at hlt]; simp only [List.map_append, List.map_cons, List.map_nil, List.foldl_append, List.foldl_cons, List.foldl_nil]
      generalize l[j] = x at hx hs hk
      unfold exC at hx hs
      repeat' (first | refine wkt ?_ | refine wk ?_ | exact wkc | intro hc | refine wk2 ?_ ?_ | refine wv hs ?_ | fail)
      exact LoopK.nextN hlt trivial (by (try dsimp only); rw [hk]; exact ⟨rfl, rfl, rfl, trivial⟩)
    · rw [List.take_length]
      have h1 := foldl_max_le 1000000000 (l.map exDepth) 0 (by omega) (fun y hy => by obtain ⟨x, hx, rfl⟩ := List.mem_map.1 hy; exact hdl x hx)
      have h2 := foldl_max_ge (l.map exDepth) 0
      repeat' (first | refine wkt ?_ | refine wk ?_ | exact wkc | intro hc | refine wk2 ?_ ?_ | fail)
      exact wkr
theorem depthR_sound (e : Ex) (h : wEx e ≤ 1000000000) : Pure Tryz.prog 106 [.t (exT e)] (.i (exDepth e)) := depthR_sound' _ e (Nat.le_refl _) h
theorem sum_take_le (f : Ex → Nat) (l : List Ex) (j : Nat) : ((l.take j).map f).sum ≤ (l.map f).sum := by
  conv => rhs; rw [← List.take_append_drop j l]
  rw [List.map_append, List.sum_append]; omega
theorem sizeR6_sound' : ∀ (m : Nat) (e : Ex), wEx e ≤ m → wEx e ≤ 1000000000 → Pure Tryz.prog 105 [.t (exT e)] (.i (wEx e)) := by
  intro m
  induction m with
  | zero => intro e he; have := wEx_pos e; omega
  | succ m ih0 =>
    intro e he hb
    have ih : ∀ x ∈ e.args, Pure Tryz.prog 105 [.t (exT x)] (.i (wEx x)) := fun x hx => ih0 x (by have := wEx_arg hx; omega) (by have := wEx_arg hx; omega)
    clear ih0
    have hll := wEx_args e
    rw [wEx_eq] at hb hll ⊢
    rw [exT_eq]
    have hc0 : exC e = [T.n e.kind, T.n e.op, T.n e.t, T.n e.v, .s e.name, .sl 6 (e.args.map exT)] := rfl
    rw [hc0]
    generalize e.args = l at ih hll hb ⊢
    have hml : (l.map exT).length = l.length := List.length_map _
    refine Sound.of tabOk Tryz.func105 (by kernel_rfl) rfl rfl ?_
    repeat' (first | refine wkt ?_ | refine wk ?_ | exact wkc | intro hc | refine wk2 ?_ ?_ | fail)
    refine TR.loopN l.length (fun _ => True) (fun j => [(3, .i ((1 + ((l.take j).map wEx).sum : Nat) : Int)), (1, .cp [T.n e.kind, T.n e.op, T.n e.t, T.n e.v, .s e.name, .sl 6 (l.map exT)] 0), (4, .i j)]) (fun _ => []) trivial (fun j hlt _ => ?_) (fun _ => ?_)
    · have hx := at_exT hlt
      have hs := ih l[j] (List.getElem_mem hlt)
      rw [exT_eq] at hs
      have hk : ((l.take (j + 1)).map wEx).sum = ((l.take j).map wEx).sum + wEx l[j] := by rw [take_at hlt]; simp only [List.map_append, List.map_cons, List.map_nil, List.sum_append, List.sum_cons, List.sum_nil, Nat.add_zero]
      have hle := sum_take_le wEx l (j + 1)
      generalize l[j] = x at hx hs hk
      unfold exC at hx hs
      repeat' (first | refine wkt ?_ | refine wk ?_ | exact wkc | intro hc | refine wk2 ?_ ?_ | refine wv hs ?_ | fail)
      exact LoopK.nextN hlt trivial (by (try dsimp only); rw [hk, ← Nat.add_assoc]; exact ⟨rfl, rfl, rfl, trivial⟩)
    · rw [List.take_length]
      repeat' (first | refine wkt ?_ | refine wk ?_ | exact wkc | intro hc | refine wk2 ?_ ?_ | fail)
      exact wkr
theorem sizeR6_sound (e : Ex) (h : wEx e ≤ 1000000000) : Pure Tryz.prog 105 [.t (exT e)] (.i (wEx e)) := sizeR6_sound' _ e (Nat.le_refl _) h
end Go.Proofs.YtonjiabmcbdhdaaGreat
set_option linter.unusedVariables false
set_option linter.unusedSimpArgs false
namespace Go.Proofs.YtonjiabmcbdhdaaGreat
open Go Go.TL
attribute [local irreducible] TR TO Then InBlock RetK Sound LoopK Kf GG ThenL
theorem list_sound' : ∀ (m : Nat) (e : Ex) (acc : List Ex), wEx e ≤ m → acc.length + wEx e ≤ 1000000000 →
    Sound Tryz.prog 37 [.t (exT e), .sl 6 (acc.map exT) 0] [.tail (acc.map exT).length] (fun r H' => r = .ret (.sl 6 ((acc ++ flat e).map exT) 0) ∧ H' = [.tail ((acc ++ flat e).map exT).length]) := by
  intro m
  induction m with
  | zero => intro e _ he; have := wEx_pos e; omega
  | succ m ih0 =>
    intro e acc he hb
    have ih : ∀ x ∈ e.args, ∀ acc : List Ex, acc.length + wEx x ≤ 1000000000 → Sound Tryz.prog 37 [.t (exT x), .sl 6 (acc.map exT) 0] [.tail (acc.map exT).length] (fun r H' => r = .ret (.sl 6 ((acc ++ flat x).map exT) 0) ∧ H' = [.tail ((acc ++ flat x).map exT).length]) :=
      fun x hx acc hb => ih0 x acc (by have := wEx_arg hx; omega) hb
    clear ih0
    have hfl : (flats e.args).length + 1 = wEx e := by rw [← flat_len, flat_eq, List.length_cons]
    have hll := wEx_args e
    rw [flat_eq]
    have he0 : (acc ++ [e]).map exT = acc.map exT ++ [.ag (exC e)] := by simp [exT_eq]
    rw [exT_eq]
    have hc0 : exC e = [T.n e.kind, T.n e.op, T.n e.t, T.n e.v, .s e.name, .sl 6 (e.args.map exT)] := rfl
    rw [hc0] at he0 ⊢
    generalize e.args = l at ih hfl hll he0 ⊢
    have hml : (l.map exT).length = l.length := List.length_map _
    have hma : (acc.map exT).length = acc.length := List.length_map _
    refine Sound.of tabOk Tryz.func37 (by kernel_rfl) rfl rfl ?_
    repeat' (first | refine wkt ?_ | refine wk ?_ | exact wkc | intro hc | refine wk2 ?_ ?_ | fail)
    have hz : (acc ++ e :: flats (l.take 0)).map exT = acc.map exT ++ [.ag [T.n e.kind, T.n e.op, T.n e.t, T.n e.v, .s e.name, .sl 6 (l.map exT)]] := by rw [← he0]; simp [flats]
    refine TR.loopN l.length (fun _ => True) (fun j => [(1, .sl 6 ((acc ++ e :: flats (l.take j)).map exT) 0), (2, .cp [T.n e.kind, T.n e.op, T.n e.t, T.n e.v, .s e.name, .sl 6 (l.map exT)] 0), (5, .i j)]) (fun j => [.tail ((acc ++ e :: flats (l.take j)).map exT).length]) trivial (fun j hlt _ => ?_) (fun _ => ?_)
      (by (try dsimp only); rw [hz]; exact ⟨rfl, rfl, rfl, trivial⟩) (by (try dsimp only); rw [hz, List.length_append]; rfl)
    · have hx := at_exT hlt
      have hfs : (flats (l.take (j + 1))).length ≤ (flats l).length := by
        conv => rhs; rw [← List.take_append_drop (j + 1) l, flats_append]
        simp
      have htk := flats_take l hlt
      rw [htk, List.length_append, flat_len] at hfs
      have hs := ih l[j] (List.getElem_mem hlt) (acc ++ e :: flats (l.take j)) (by simp only [List.length_append, List.length_cons]; omega)
      rw [exT_eq] at hs
      generalize l[j] = x at hx hs htk
      unfold exC at hx hs
      repeat' (first | refine wkt ?_ | refine wk ?_ | exact wkc | intro hc | refine wk2 ?_ ?_ | refine wd hs ?_ | fail)
      exact LoopK.nextN hlt trivial (by (try dsimp only); rw [htk, List.append_assoc, List.cons_append]; exact ⟨rfl, rfl, rfl, trivial⟩) (by (try dsimp only); rw [htk, List.append_assoc, List.cons_append])
    · rw [List.take_length]
      repeat' (first | refine wkt ?_ | refine wk ?_ | exact wkc | intro hc | refine wk2 ?_ ?_ | fail)
      exact RetK.at 1 rfl (Le.refl _) (Nat.le_refl _) rfl rfl rfl ⟨rfl, rfl⟩
theorem list_sound (e : Ex) (h : wEx e ≤ 1000000000) : Pure Tryz.prog 37 [.t (exT e), .t (.v (.slice none 0 0))] (.t (.sl 6 ((flat e).map exT))) :=
  Sound.own (Sound.fresh (pre := [.t (exT e)]) (post := []) (list_sound' _ e [] (Nat.le_refl _) (by simpa using h)))
theorem List_sound (e : Ex) (h : wEx e ≤ 1000000000) : Pure Tryz.prog 16 [.t (exT e)] (.t (.sl 6 ((flat e).map exT))) := by
  have hs := list_sound e h
  rw [exT_eq] at hs ⊢
  unfold exC at *
  refine Sound.of tabOk Tryz.func16 (by kernel_rfl) rfl rfl ?_
  repeat' (first | refine wkt ?_ | refine wk ?_ | exact wkc | intro hc | refine wk2 ?_ ?_ | refine wv hs ?_ | fail)
  exact wkr
theorem sizeE_sound (e : Ex) (h : wEx e ≤ 1000000000) : Pure Tryz.prog 18 [.t (exT e)] (.i (wEx e)) := by
  have hs := Each_sound e
  rw [exT_eq] at hs ⊢
  have hc0 : exC e = [T.n e.kind, T.n e.op, T.n e.t, T.n e.v, .s e.name, .sl 6 (e.args.map exT)] := rfl
  have hfl := flat_len e
  rw [hc0] at hs ⊢
  refine Sound.of tabOk Tryz.func18 (by kernel_rfl) rfl rfl ?_
  repeat' (first | refine wkb ?_ | refine wk ?_ | exact wkc | intro hc | refine wk2 ?_ ?_ | refine wv hs ?_ | fail)
  refine TR.rangeEach e (fun pre => [.cells [.i pre.length]]) (fun _ _ => .go) rfl h rfl rfl rfl (fun _ => ⟨rfl, rfl⟩) (fun _ _ => trivial) (fun fn pre x post hw => ?_) (fun fn => ?_)
  · have hl : pre.length < wEx e := by rw [← hfl, hw]; simp
    refine TR.skip ⟨rfl, ?_⟩
    repeat' (first | refine wkb ?_ | refine wk ?_ | exact wkc | intro hc | refine wk2 ?_ ?_ | fail | fail)
    exact ⟨rfl, by simp, rfl⟩
  · have : ∀ (l pre : List Ex), scanO (fun _ _ => Out.go) pre l = .go := by
      intro l
      induction l with
      | nil => intro _; rfl
      | cons x l ih => intro pre; simp [scanO, ih]
    rw [this, ← hfl]
    repeat' (first | refine wkb ?_ | refine wk ?_ | exact wkc | intro hc | refine wk2 ?_ ?_ | fail | fail)
    exact wkr
end Go.Proofs.YtonjiabmcbdhdaaGreat
set_option linter.unusedVariables false
set_option linter.unusedSimpArgs false
namespace Go.Proofs.YtonjiabmcbdhdaaGreat
open Go Go.TL
attribute [local irreducible] TR TO Then InBlock RetK Sound LoopK Kf GG ThenL
def bit (c : UInt8) : Bool := decide ((c.toNat : Int) = 48) || decide ((c.toNat : Int) = 49)
abbrev bitT (c : UInt8) : T := .v (.bool (decide ((c.toNat : Int) = 49)))
abbrev bitsT (l : Str) : T := .sl 1 (l.map bitT)
theorem tw_get (p : UInt8 → Bool) : ∀ (l : Str) (k : Nat), k < (l.takeWhile p).length → ∃ c, l[k]? = some c ∧ (l.takeWhile p)[k]? = some c ∧ p c = true
  | [], k, h => by simp at h
  | a :: l, k, h => by
    by_cases hp : p a = true
    · simp only [List.takeWhile_cons, hp, if_true] at h ⊢
      cases k with
      | zero => exact ⟨a, rfl, rfl, hp⟩
      | succ k => simpa using tw_get p l k (by simpa using h)
    · simp [List.takeWhile_cons, hp] at h
theorem tw_end (p : UInt8 → Bool) : ∀ (l : Str) (c : UInt8), l[(l.takeWhile p).length]? = some c → p c = false
  | [], c, h => by simp at h
  | a :: l, c, h => by
    by_cases hp : p a = true
    · simp only [List.takeWhile_cons, hp, if_true, List.length_cons, List.getElem?_cons_succ] at h
      exact tw_end p l c h
    · simp only [List.takeWhile_cons, hp] at h
      simp at h
      subst h
      simpa using hp
theorem tw_len (p : UInt8 → Bool) : ∀ (l : Str), (l.takeWhile p).length ≤ l.length
  | [] => Nat.le_refl _
  | a :: l => by
    simp only [List.takeWhile_cons]
    split
    · have := tw_len p l; simp; omega
    · simp
theorem run_sound (s : Str) (hs : s.length ≤ 1000) (i : Nat) (hi : i ≤ s.length) : Pure Tryz.prog 168 [.s s, .i i] (.t (bitsT ((s.drop i).takeWhile bit))) := by
  have hg := tw_get bit (s.drop i)
  have he := tw_end bit (s.drop i)
  have hle := tw_len bit (s.drop i)
  rw [List.length_drop] at hle
  generalize (s.drop i).takeWhile bit = w at hg he hle ⊢
  have hmw : (w.map bitT).length = w.length := List.length_map _
  refine Sound.of tabOk Tryz.func168 (by kernel_rfl) rfl rfl ?_
  repeat' (first | refine wk ?_ | exact wkc | intro hc | refine wk2 ?_ ?_ | fail)
  refine TR.tail 1 5 rfl ?_
  refine TR.loopN w.length (fun _ => True) (fun k => [(0, .s s), (1, .i ((i + k : Nat) : Int)), (5, .sl 1 ((w.take k).map bitT) 0)]) (fun k => [.tail ((w.take k).map bitT).length]) trivial (fun k hlt _ => ?_) (fun _ => ?_)
  · obtain ⟨c, hx, hw, hb⟩ := hg k hlt
    rw [List.getElem?_drop] at hx
    have hik := (List.getElem?_eq_some_iff.1 hx).1
    have htk : w.take (k + 1) = w.take k ++ [c] := by rw [List.take_succ_eq_append_getElem hlt]; rw [List.getElem?_eq_getElem hlt] at hw; simp at hw; rw [hw]
    have hmk : ((w.take k).map bitT).length ≤ 1000 := by simp; omega
    repeat' (first | refine wk ?_ | exact wkc | intro hc | refine wk2 ?_ ?_ | fail)
    all_goals first
      | (refine LoopK.nextN hlt trivial ?_ ?_
         · rw [htk, List.map_append]
           simp only [List.map_cons, List.map_nil, bitT, *]
           exact ⟨rfl, rfl, rfl, trivial⟩
         · rw [htk, List.map_append, List.length_append]; rfl)
      | (exfalso; simp_all [bit]; done)
  · rw [List.take_length]
    by_cases hlt : i + w.length < s.length
    · have hx := List.getElem?_eq_getElem hlt
      have hb := he s[i + w.length] (by rw [List.getElem?_drop]; exact hx)
      generalize s[i + w.length] = c at hx hb
      repeat' (first | refine wk ?_ | exact wkc | intro hc | refine wk2 ?_ ?_ | fail)
      all_goals first
        | exact wkr
        | (exfalso; simp_all [bit]; done)
    · repeat' (first | refine wk ?_ | exact wkc | intro hc | refine wk2 ?_ ?_ | fail)
      exact wkr
theorem checkR2_sound (h l : Str) (hs : h.length ≤ 1000) (hl : l.length ≤ 1000) : Pure Tryz.prog 169 [.t (.ag [bitsT h, bitsT l])] (.i (if l.length = 0 then 5 else if 64 < h.length + l.length then 3 else 0)) := by
  have h1 : (h.map bitT).length = h.length := List.length_map _
  have h2 : (l.map bitT).length = l.length := List.length_map _
  refine Sound.of tabOk Tryz.func169 (by kernel_rfl) rfl rfl ?_
  repeat' (first | refine wkt ?_ | refine wk ?_ | exact wkc | intro hc | refine wk2 ?_ ?_ | fail)
  · rw [if_pos (by omega)]; exact wkr
  · rw [if_neg (by omega), if_pos (by omega)]; exact wkr
  · rw [if_neg (by omega), if_neg (by omega)]; exact wkr
theorem checkW_sound (h l : Str) (hs : h.length ≤ 1000) (hl : l.length ≤ 1000) : Pure Tryz.prog 167 [.t (.ag [bitsT h, bitsT l])] (.i (if l.length = 0 then 5 else if 64 < h.length + l.length then 3 else 0)) := by
  have h1 : (h.map bitT).length = h.length := List.length_map _
  have h2 : (l.map bitT).length = l.length := List.length_map _
  refine Sound.of tabOk Tryz.func167 (by kernel_rfl) rfl rfl ?_
  repeat' (first | refine wkt ?_ | refine wk ?_ | exact wkc | intro hc | refine wk2 ?_ ?_ | fail)
  · rw [if_pos (by omega)]; exact wkr
  · rw [if_neg (by omega), if_pos (by omega)]; exact wkr
  · rw [if_neg (by omega), if_neg (by omega)]; exact wkr
theorem letters_sound (s : Str) (hs : s.length ≤ 1000) : Pure Tryz.prog 166 [.s s] (.tup [.t (bitsT (if s.all bit then s else [])), .b (s.all bit)]) := by
  refine Sound.of tabOk Tryz.func166 (by kernel_rfl) rfl rfl ?_
  repeat' (first | refine wk ?_ | exact wkc | intro hc | refine wk2 ?_ ?_ | fail)
  refine TR.tail 1 4 rfl ?_
  refine TR.loopN s.length (fun k => (s.take k).all bit = true) (fun k => [(0, .s s), (7, .i s.length), (8, .i k), (4, .sl 1 ((s.take k).map bitT) 0)]) (fun k => [.tail ((s.take k).map bitT).length]) rfl (fun k hlt ha => ?_) (fun ha => ?_)
  · have hx := List.getElem?_eq_getElem hlt
    have htk := List.take_succ_eq_append_getElem hlt
    have hm := List.getElem_mem hlt
    generalize s[k] = c at hx htk hm
    have hmk : ((s.take k).map bitT).length ≤ 1000 := by simp; omega
    repeat' (first | refine wk ?_ | exact wkc | intro hc | refine wk2 ?_ ?_ | fail)
    all_goals first
      | (refine LoopK.nextN hlt (by rw [htk, List.all_append, ha]; simp [bit]; omega) ?_ ?_
         · rw [htk, List.map_append]
           simp only [List.map_cons, List.map_nil, bitT, *]
           exact ⟨rfl, rfl, rfl, rfl, trivial⟩
         · rw [htk, List.map_append, List.length_append]; rfl)
      | (have h0 : s.all bit = false := List.all_eq_false.2 ⟨c, hm, by simp [bit]; omega⟩
         rw [h0]
         simp only [Bool.false_eq_true, if_false, List.map_nil]
         exact wkr)
      | (exfalso; simp_all; done)
  · rw [List.take_length] at ha ⊢
    rw [ha]
    repeat' (first | refine wk ?_ | exact wkc | intro hc | refine wk2 ?_ ?_ | fail)
    exact wkr
def wordP (s : Str) : (Str × Str) × Int :=
  if 66 < s.length then (([], []), 3) else
  match s.drop (s.takeWhile bit).length with
  | 40 :: r => if r.drop (r.takeWhile bit).length = [41] ∧ r.takeWhile bit ≠ [] then ((s.takeWhile bit, r.takeWhile bit), 0) else (([], []), 5)
  | _ => (([], []), 5)
abbrev wordT (w : Str × Str) : T := .ag [bitsT w.1, bitsT w.2]
theorem drop_cons {s : Str} {k : Nat} {c : UInt8} (h : s[k]? = some c) : s.drop k = c :: s.drop (k + 1) := by
  have hl := (List.getElem?_eq_some_iff.1 h)
  rw [List.drop_eq_getElem_cons hl.1, hl.2]
theorem u8_of {c : UInt8} {k : UInt8} (h : (c.toNat : Int) = (k.toNat : Int)) : c = k := UInt8.toNat_inj.1 (by omega)
theorem parseR2_sound (s : Str) : Pure Tryz.prog 142 [.s s] (.tup [.t (wordT (wordP s).1), .i (wordP s).2]) := by
  by_cases h66 : 66 < s.length
  · rw [show wordP s = (([], []), 3) from if_pos h66]
    refine Sound.of tabOk Tryz.func142 (by kernel_rfl) rfl rfl ?_
    repeat' (first | refine wk ?_ | exact wkc | intro hc | refine wk2 ?_ ?_ | fail)
    exact wkr
  · have hr0 := run_sound s (by omega) 0 (Nat.zero_le _)
    have htl := tw_len bit s
    have hend := tw_end bit s
    simp only [List.drop_zero] at hr0
    have hsp : wordP s = match s.drop (s.takeWhile bit).length with
      | 40 :: r => if r.drop (r.takeWhile bit).length = [41] ∧ r.takeWhile bit ≠ [] then ((s.takeWhile bit, r.takeWhile bit), 0) else (([], []), 5)
      | _ => (([], []), 5) := if_neg h66
    generalize s.takeWhile bit = h at hr0 htl hend hsp
    have hmh : (h.map bitT).length = h.length := List.length_map _
    by_cases hlt : h.length < s.length
    · have hx := List.getElem?_eq_getElem hlt
      generalize s[h.length] = c at hx
      have hdr := drop_cons hx
      rw [hdr] at hsp
      by_cases hc40 : c = 40
      · subst hc40
        simp only [] at hsp
        have hr1 := run_sound s (by omega) (h.length + 1) (by omega)
        have htl1 := tw_len bit (s.drop (h.length + 1))
        rw [List.length_drop] at htl1
        generalize hl : (s.drop (h.length + 1)).takeWhile bit = l at hr1 htl1 hsp
        have hml : (l.map bitT).length = l.length := List.length_map _
        have hck := checkR2_sound h l (by omega) (by omega)
        rw [List.drop_drop] at hsp
        have hxx : (40 : UInt8).toNat = 40 := rfl
        by_cases hlt1 : h.length + 1 + l.length < s.length
        · have hx1 := List.getElem?_eq_getElem hlt1
          generalize s[h.length + 1 + l.length] = c1 at hx1
          have hdr1 := drop_cons hx1
          rw [hdr1] at hsp
          rw [if_neg (show ¬ 64 < h.length + l.length by omega)] at hck
          have hq := @List.drop_eq_nil_iff _ s (h.length + 1 + l.length + 1)
          have h41 : c1 = 41 ↔ (c1.toNat : Int) = 41 := ⟨fun e => by rw [e]; rfl, fun e => u8_of e⟩
          generalize s.drop (h.length + 1 + l.length + 1) = q at hsp hq
          simp only [List.cons.injEq, h41, hq] at hsp
          rw [hsp]
          clear hsp
          by_cases hl0 : l = []
          · have hl1 : l.length = 0 := by rw [hl0]; rfl
            rw [if_pos hl1] at hck
            rw [if_neg (by simp [hl0])]
            refine Sound.of tabOk Tryz.func142 (by kernel_rfl) rfl rfl ?_
            repeat' (first | refine wk ?_ | exact wkc | intro hc | refine wk2 ?_ ?_ | refine wv hr0 ?_ | refine wv hr1 ?_ | refine wv hck ?_ | rw [hmh] | rw [hml] | fail)
            all_goals exact wkr
          · have hl1 : l.length ≠ 0 := fun e => hl0 (List.eq_nil_of_length_eq_zero e)
            rw [if_neg hl1] at hck
            refine Sound.of tabOk Tryz.func142 (by kernel_rfl) rfl rfl ?_
            repeat' (first | refine wk ?_ | exact wkc | intro hc | refine wk2 ?_ ?_ | refine wv hr0 ?_ | refine wv hr1 ?_ | refine wv hck ?_ | rw [hmh] | rw [hml] | fail)
            all_goals first
              | (rw [if_neg (by rintro ⟨⟨e1, e2⟩, e3⟩; omega)]; exact wkr)
              | (rw [if_pos ⟨⟨by omega, by omega⟩, hl0⟩]; exact wkr)
        · have hnil : s.drop (h.length + 1 + l.length) = [] := List.drop_eq_nil_of_le (by omega)
          rw [hnil, if_neg (by simp)] at hsp
          rw [hsp]
          refine Sound.of tabOk Tryz.func142 (by kernel_rfl) rfl rfl ?_
          repeat' (first | refine wk ?_ | exact wkc | intro hc | refine wk2 ?_ ?_ | refine wv hr0 ?_ | refine wv hr1 ?_ | refine wv hck ?_ | rw [hmh] | rw [hml] | fail)
          all_goals exact wkr
      · have hne : ¬ (c.toNat : Int) = 40 := fun e => hc40 (u8_of e)
        have : wordP s = (([], []), 5) := by
          rw [hsp]
          split
          · rename_i e; cases e; exact absurd rfl hc40
          · rfl
        rw [this]
        refine Sound.of tabOk Tryz.func142 (by kernel_rfl) rfl rfl ?_
        repeat' (first | refine wk ?_ | exact wkc | intro hc | refine wk2 ?_ ?_ | refine wv hr0 ?_ | rw [hmh] | fail)
        all_goals exact wkr
    · have hnil : s.drop h.length = [] := List.drop_eq_nil_of_le (by omega)
      rw [hnil] at hsp
      rw [hsp]
      refine Sound.of tabOk Tryz.func142 (by kernel_rfl) rfl rfl ?_
      repeat' (first | refine wk ?_ | exact wkc | intro hc | refine wk2 ?_ ?_ | refine wv hr0 ?_ | rw [hmh] | fail)
      all_goals exact wkr
end Go.Proofs.YtonjiabmcbdhdaaGreat
