import Derived.Test.YtonjiabmcbdhdaaGreatPk17
set_option linter.unusedSimpArgs false
set_option linter.unusedVariables false
namespace Go.Proofs.YtonjiabmcbdhdaaGreat
open Go Go.TL
attribute [local irreducible] TR TO Then InBlock RetK Sound LoopK Kf GG ThenL
set_option maxHeartbeats 1000000 in
theorem each_sound (S : EachS) (hS : S.ok) (whole : List Ex) (hW : whole.length ≤ 1000000000) (hY : ∀ pre x post, whole = pre ++ x :: post → YSound Tryz.prog S.L0 (.t (exT x)) (S.Hb pre ++ [S.lp .ready none]) (EachR S pre [x])) :
  ∀ (m : Nat) (e : Ex), wEx e ≤ m → ∀ (pre post : List Ex), whole = pre ++ (flat e ++ post) → Sound Tryz.prog 70 [.t (exT e), .yl S.L0] (S.Hb pre ++ [S.lp .ready none]) (EachR S pre (flat e)) := by
 intro m
 induction m with
 | zero => intro e he; have := wEx_pos e; omega
 | succ m ih0 =>
   intro e he pre post hw
   have ih : ∀ x ∈ e.args, ∀ (pre post : List Ex), whole = pre ++ (flat x ++ post) → Sound Tryz.prog 70 [.t (exT x), .yl S.L0] (S.Hb pre ++ [S.lp .ready none]) (EachR S pre (flat x)) :=
    fun x hx => ih0 x (by have := wEx_arg hx; omega)
   clear ih0
   have hN : (S.Hb pre ++ [S.lp .ready none]).length = S.L0 + 1 := by simp [(hS.1 _).1]
   have hbu : ∀ pre, blksUnder (S.L0 + 1) (S.Hb pre ++ [S.lp .ready none]) = true := fun pre => blksUnder_append (hS.1 _).2 (by simp [blksUnder, hS.2.1])
   have hy := hY pre e (flats e.args ++ post) (by rw [hw, flat_eq]; simp)
   have hflat := flat_eq e
   rw [exT_eq] at hy ⊢
   have hll : e.args.length ≤ 1000000000 := by
    have h1 := flats_len e.args
    have h2 := congrArg List.length hw
    simp [hflat] at h2
    omega
   generalize hl : e.args = l at ih hflat hll
   have hC : exC e = [T.n e.kind, T.n e.op, T.n e.t, T.n e.v, .s e.name, .sl 6 (l.map exT)] := by rw [← hl]; rfl
   rw [hC] at hy ⊢
   have hml : (l.map exT).length = l.length := List.length_map _
   generalize hG : S.Hb pre ++ [S.lp .ready none] = G at hy hN ⊢
   have hGu : blksUnder (S.L0 + 1) G = true := by rw [← hG]; exact hbu pre
   refine Sound.of tabOk Tryz.func70 (by kernel_rfl) rfl rfl ?_
   repeat' (first | refine wkt ?_ | refine wk ?_ | exact wkc | intro hc | refine wk2 ?_ ?_ | fail)
   have hGt : G.take (S.L0 + 1) = G := List.take_of_length_le (by omega)
   have hGd : G.drop (S.L0 + 1) = [] := List.drop_of_length_le (by omega)
   refine TO.yieldT (S.L0 + 1) (arg := .t (.ag [T.n e.kind, T.n e.op, T.n e.t, T.n e.v, .s e.name, .sl 6 (l.map exT)])) hy (eachR_within hS pre [_]) rfl rfl rfl rfl (Nat.lt_succ_self _) (by omega) hGt hGu ?_ ?_
   ·intro u H' hr
    simp only [EachR, scanO] at hr
    rw [hGd, List.append_nil]
    cases hf : S.f pre e with
    | panic v0 H0 => rw [hf] at hr; cases hr.1
    | jump c H0 =>
      rw [hf] at hr
      obtain ⟨h1, rfl⟩ := hr
      cases h1
      have ho := hS.2.2 pre e
      rw [hf] at ho
      repeat' (first | refine wkt ?_ | refine wk ?_ | exact wkc | intro hc | refine wk2 ?_ ?_ | fail)
      refine RetK.at (v := .b false) (S.L0 + 1) rfl (Le.of_eq rfl) (by omega) (by simp [ho.1]) rfl (blksUnder_append ho.2 (by simp [blksUnder, hS.2.1])) ?_
      simp [EachR, hflat, scanO, hf]
    | go =>
      rw [hf] at hr
      obtain ⟨h1, rfl⟩ := hr
      cases h1
      repeat' (first | refine wkt ?_ | refine wk ?_ | exact wkc | intro hc | refine wk2 ?_ ?_ | fail)
      refine TR.loopN l.length (fun j => scanO S.f (pre ++ [e]) (flats (l.take j)) = .go) (fun j => [(14, .i j), (13, .i l.length), (12, .t (.sl 6 (l.map exT))), (1, .yl S.L0), (4, .b false)])
       (fun j => S.Hb (pre ++ [e] ++ flats (l.take j)) ++ [S.lp .ready none]) (by simp [flats, scanO]) (fun j hlt hsc => ?_) (fun hsc => ?_) ⟨rfl, by rw [← hml]; rfl, rfl, rfl, rfl, trivial⟩ (by simp [flats])
      ·have hGj : (S.Hb (pre ++ [e] ++ flats (l.take j)) ++ [S.lp .ready none]).length = S.L0 + 1 := by simp [(hS.1 _).1]
       have hGjd : (S.Hb (pre ++ [e] ++ flats (l.take j)) ++ [S.lp .ready none]).drop (S.L0 + 1) = [] := List.drop_of_length_le (by omega)
       have hx := at_exT hlt
       have hw' : whole = (pre ++ [e] ++ flats (l.take j)) ++ (flat l[j] ++ (flats (l.drop (j + 1)) ++ post)) := by
        rw [hw, hflat, flats_split l hlt]; simp
       have hs := ih l[j] (List.getElem_mem hlt) _ _ hw'
       rw [exT_eq] at hs
       repeat' (first | refine wkt ?_ | refine wk ?_ | exact wkc | intro hc | refine wk2 ?_ ?_ | fail)
       refine TO.callT (S.L0 + 1) hs (eachR_within hS _ _) rfl rfl rfl ⟨Le.of_eq rfl, Le.refl _, trivial⟩ (by simp [unders, SV.under, Nat.blt_eq]) (by omega) (List.take_of_length_le (by omega)) (hbu _) ?_ ?_
       ·intro u H2 hr2
        have hout := scanO_out hS (flat l[j]) (pre ++ [e] ++ flats (l.take j))
        simp only [EachR] at hr2
        rw [hGjd, List.append_nil]
        cases ho : scanO S.f (pre ++ [e] ++ flats (l.take j)) (flat l[j]) with
        | panic v0 H0 => rw [ho] at hr2; cases hr2.1
        | jump c H0 =>
          rw [ho] at hr2 hout
          obtain ⟨h1, rfl⟩ := hr2
          cases h1
          repeat' (first | refine wkt ?_ | refine wk ?_ | exact wkc | intro hc | refine wk2 ?_ ?_ | fail)
          refine RetK.at (v := .b false) (S.L0 + 1) rfl (Le.of_eq rfl) (by omega) (by simp [hout.1]) rfl (blksUnder_append hout.2 (by simp [blksUnder, hS.2.1])) ?_
          have : scanO S.f pre (flat e) = .jump c H0 := by
           rw [hflat, scanO, hf]
           simp only []
           rw [flats_split l hlt, scanO_append, hsc]
           simp only []
           rw [scanO_append, ho]
          simp [EachR, this]
        | go =>
          rw [ho] at hr2
          obtain ⟨h1, rfl⟩ := hr2
          cases h1
          repeat' (first | refine wkt ?_ | refine wk ?_ | exact wkc | intro hc | refine wk2 ?_ ?_ | fail)
          refine LoopK.nextN hlt ?_ ⟨rfl, rfl, rfl, rfl, rfl, trivial⟩ (by rw [flats_take l hlt]; simp)
          rw [flats_take l hlt, scanO_append, hsc]
          exact ho
       ·intro u H2 hr2
        have hout := scanO_out hS (flat l[j]) (pre ++ [e] ++ flats (l.take j))
        simp only [EachR] at hr2
        rw [hGjd, List.append_nil]
        cases ho : scanO S.f (pre ++ [e] ++ flats (l.take j)) (flat l[j]) with
        | panic v0 H0 =>
          rw [ho] at hr2 hout
          obtain ⟨h1, rfl⟩ := hr2
          cases h1
          repeat' (first | refine wkt ?_ | refine wk ?_ | exact wkc | intro hc | refine wk2 ?_ ?_ | fail)
          refine LoopK.panic ?_
          repeat' (first | refine wkt ?_ | refine wk ?_ | exact wkc | intro hc | refine wk2 ?_ ?_ | fail)
          refine RetK.atP (S.L0 + 1) ?_ ?_ hout.1 ?_ ?_
          ·omega
          ·simp [hout.2.1]
          ·exact blksUnder_append hout.2.2 (by simp [blksUnder, hS.2.1])
          have : scanO S.f pre (flat e) = .panic u H0 := by
           rw [hflat, scanO, hf]
           simp only []
           rw [flats_split l hlt, scanO_append, hsc]
           simp only []
           rw [scanO_append, ho]
          simp [EachR, this]
        | jump c H0 => rw [ho] at hr2; cases hr2.1
        | go => rw [ho] at hr2; cases hr2.1
      ·have hGj : (S.Hb (pre ++ [e] ++ flats (l.take l.length)) ++ [S.lp .ready none]).length = S.L0 + 1 := by simp [(hS.1 _).1]
       repeat' (first | refine wkt ?_ | refine wk ?_ | exact wkc | intro hc | refine wk2 ?_ ?_ | fail)
       refine RetK.at (v := .b true) (S.L0 + 1) rfl (Le.of_eq rfl) (by omega) hGj rfl (hbu _) ?_
       have : scanO S.f pre (flat e) = .go := by
        rw [hflat, scanO, hf]
        simp only []
        rw [List.take_length] at hsc
        exact hsc
       simp only [EachR, this]
       exact ⟨trivial, by rw [hflat]; simp⟩
   ·intro u H' hr
    simp only [EachR, scanO] at hr
    rw [hGd, List.append_nil]
    cases hf : S.f pre e with
    | panic v0 H0 =>
      have ho := hS.2.2 pre e
      rw [hf] at hr ho
      obtain ⟨h1, rfl⟩ := hr
      cases h1
      repeat' (first | refine wkt ?_ | refine wk ?_ | exact wkc | intro hc | refine wk2 ?_ ?_ | fail)
      refine RetK.atP (S.L0 + 1) ?_ ?_ ho.1 ?_ ?_
      ·omega
      ·simp [ho.2.1]
      ·exact blksUnder_append ho.2.2 (by simp [blksUnder, hS.2.1])
      simp [EachR, hflat, scanO, hf]
    | jump c H0 => rw [hf] at hr; cases hr.1
    | go => rw [hf] at hr; cases hr.1
def lpB (fn n : Nat) (env : Env) (ps : Array Tmp) (assign body : Code) (st : LoopState) (pe : Option Code) : Blk := .loop fn st pe n env ps assign body
theorem Each_sound (e : Ex) : Pure Tryz.prog 39 [.t (exT e)] (.fn 69 [.cp (exC e) 0]) := by
 rw [exT_eq]
 refine Sound.of tabOk Tryz.func39 (by kernel_rfl) rfl rfl ?_
 repeat' (first | refine wkt ?_ | refine wk ?_ | exact wkc | intro hc | refine wk2 ?_ ?_ | fail)
 exact wkr
def Each1R (S : EachS) (xs : List Ex) (r : Res) (H : Heap) : Prop :=
 match scanO S.f [] xs with
 | .go => r = .ret (.tup []) ∧ H = S.Hb xs ++ [S.lp .ready none]
 | .jump c H0 => r = .ret (.tup []) ∧ H = H0 ++ [S.lp .done (some c)]
 | .panic v H0 => r = .panic v ∧ H = H0 ++ [S.lp .busy none]
theorem each1_sound (S : EachS) (hS : S.ok) (e : Ex) (hW : wEx e ≤ 1000000000) (hY : ∀ pre x post, flat e = pre ++ x :: post → YSound Tryz.prog S.L0 (.t (exT x)) (S.Hb pre ++ [S.lp .ready none]) (EachR S pre [x])) :
  Sound Tryz.prog 69 [.yl S.L0, .cp (exC e) 0] (S.Hb [] ++ [S.lp .ready none]) (Each1R S (flat e)) := by
 have hs := each_sound S hS (flat e) (by rw [flat_len]; exact hW) hY (wEx e) e (Nat.le_refl _) [] [] (by simp)
 rw [exT_eq] at hs
 have hout := scanO_out hS (flat e) []
 have hHb := hS.1
 have hlp := hS.2.1
 unfold exC at *
 refine Sound.of tabOk Tryz.func69 (by kernel_rfl) rfl rfl ?_
 repeat' (first | refine wkt ?_ | refine wk ?_ | exact wkc | intro hc | refine wk2 ?_ ?_ | fail)
 refine TO.callA hs rfl rfl rfl ⟨Le.refl _, Le.refl _, trivial⟩ ?_ ?_
 ·intro u H2 hr
  simp only [EachR] at hr
  cases ho : scanO S.f [] (flat e) with
  | panic v0 H0 => rw [ho] at hr; cases hr.1
  | jump c H0 =>
    rw [ho] at hr hout
    obtain ⟨h1, rfl⟩ := hr
    cases h1
    repeat' (first | refine wkt ?_ | refine wk ?_ | exact wkc | intro hc | refine wk2 ?_ ?_ | fail)
    refine RetK.atN (v := .tup []) (S.L0 + 1) rfl (Le.of_eq rfl) (by simp [(hHb _).1]) (by simp [hout.1]) rfl (blksUnder_append hout.2 (by simp [blksUnder, hlp])) ?_
    simp only [Each1R, ho]
    (first | exact ⟨trivial, rfl⟩ | exact ⟨trivial, trivial⟩)
  | go =>
    rw [ho] at hr
    obtain ⟨h1, rfl⟩ := hr
    cases h1
    repeat' (first | refine wkt ?_ | refine wk ?_ | exact wkc | intro hc | refine wk2 ?_ ?_ | fail)
    refine RetK.atN (v := .tup []) (S.L0 + 1) rfl (Le.of_eq rfl) (by simp [(hHb _).1]) (by simp [(hHb _).1]) rfl (blksUnder_append (hHb _).2 (by simp [blksUnder, hlp])) ?_
    simp only [Each1R, ho]
    (first | exact ⟨trivial, rfl⟩ | exact ⟨trivial, trivial⟩)
 ·intro u H2 hr
  simp only [EachR] at hr
  cases ho : scanO S.f [] (flat e) with
  | panic v0 H0 =>
    rw [ho] at hr hout
    obtain ⟨h1, rfl⟩ := hr
    cases h1
    repeat' (first | refine wkt ?_ | refine wk ?_ | exact wkc | intro hc | refine wk2 ?_ ?_ | fail)
    refine RetK.atP (S.L0 + 1) ?_ ?_ hout.1 ?_ ?_
    ·simp [(hHb _).1]
    ·simp [hout.2.1]
    ·exact blksUnder_append hout.2.2 (by simp [blksUnder, hlp])
    simp only [Each1R, ho]
    (first | exact ⟨trivial, rfl⟩ | exact ⟨trivial, trivial⟩)
  | jump c H0 => rw [ho] at hr; cases hr.1
  | go => rw [ho] at hr; cases hr.1
def RoundK (L0 : Nat) (lb : Blk) (Hb : List Ex → Heap) (f : List Ex → Ex → Out) (pre : List Ex) (x : Ex) : TK
 | .normal, _, H => f pre x = .go ∧ H.take L0 = Hb (pre ++ [x]) ∧ H[L0]? = some lb
 | .ret, _, H => ∃ H0, f pre x = .jump .ret H0 ∧ H.take L0 = H0 ∧ H[L0]? = some lb
 | .exit i, _, H => ∃ H0, f pre x = .jump (.exit i) H0 ∧ H.take L0 = H0 ∧ H[L0]? = some lb
 | .panic v, _, H => ∃ H0, f pre x = .panic v H0 ∧ H.take L0 = H0 ∧ H[L0]? = some lb
def AsgK (P : Program) (n L0 : Nat) (lr lb : Blk) (body : Code) (Hb : List Ex → Heap) (f : List Ex → Ex → Out) (pre : List Ex) (x : Ex) : TK
 | .normal, env, H => H[L0]? = some lr ∧ TR P n body env (H.set L0 lb) (RoundK L0 lb Hb f pre x)
 | _, _, _ => False
theorem take_set_last {α : Type} {H : List α} {L : Nat} {a b : α} (h : H[L]? = some a) : (H.set L b).take (L + 1) = H.take L ++ [b] := by
 have hl := (List.getElem?_eq_some_iff.1 h).1
 rw [List.take_succ_eq_append_getElem (by simpa using hl), List.take_set, List.set_eq_of_length_le (by simp; omega)]
 simp
theorem TR.rangeEach {n : Nat} {g : Operand} {p : Tmp} {assign body : Code} {env : Env} {H : Heap} {K : TK} (e : Ex) (Hb : List Ex → Heap) (f : List Ex → Ex → Out) (hg : env.val g = some (.fn 69 [.cp (exC e) 0])) (hW : wEx e ≤ 1000000000)
  (h0 : Hb [] = H) (hp : Nat.ble (p + 1) n = true) (henv : (env.all fun x => x.2.under (H.length + 1)) = true) (hHb : ∀ pre, (Hb pre).length = H.length ∧ blksUnder (H.length + 1) (Hb pre) = true)
  (hf : ∀ pre x, match f pre x with
    | .go => True
    | .jump c H1 => H1.length = H.length ∧ blksUnder (H.length + 1) H1 = true
    | .panic v H1 => v.under (H.length + 1) = true ∧ H1.length = H.length ∧ blksUnder (H.length + 1) H1 = true)
  (round : ∀ fn pre x post, flat e = pre ++ x :: post → TR Tryz.prog n assign ((p, .t (.ag (exC x))) :: env) (Hb pre ++ [lpB fn n env #[p] assign body .ready none]) (AsgK Tryz.prog n H.length (lpB fn n env #[p] assign body .ready none) (lpB fn n env #[p] assign body .busy none) body Hb f pre x))
  (fin : ∀ fn, match scanO f [] (flat e) with
    | .go => K .normal env (Hb (flat e) ++ [.dead])
    | .jump .ret H1 => K .ret env (H1 ++ [.dead])
    | .jump (.exit i) H1 => K (.exit i) env (H1 ++ [.dead])
    | .jump _ _ => False
    | .panic v H1 => K (.panic v) env (H1 ++ [lpB fn n env #[p] assign body .busy none])) : TR Tryz.prog n (.rangeFunc g #[p] assign body) env H K := by
 refine TR.rangeFunc hg fun fn hfn => ?_
 have fin := fin fn
 have hS : EachS.ok ⟨H.length, Hb, lpB fn n env #[p] assign body, f⟩ := by
  refine ⟨hHb, fun st pe => ?_, fun pre x => hf pre x⟩
  exact henv
 have hpl : ∀ pre : List Ex, (Hb pre).length = H.length := fun pre => (hHb pre).1
 have := each1_sound ⟨H.length, Hb, lpB fn n env #[p] assign body, f⟩ hS e hW ?_
 ·simp only [h0] at this
  refine Sound.mono this fun r H' hr => ?_
  simp only [Each1R] at hr
  cases ho : scanO f [] (flat e) with
  | go =>
    rw [ho] at hr fin
    obtain ⟨rfl, rfl⟩ := hr
    simp only [RangeK]
    refine ⟨fn, .ready, none, n, env, #[p], assign, body, ?_, by simp, ?_⟩
    ·rw [← hpl (flat e)]; simp [lpB]
    ·have : (Hb (flat e) ++ [lpB fn n env #[p] assign body LoopState.ready none]).set H.length .dead = Hb (flat e) ++ [.dead] := by rw [← hpl (flat e)]; simp
     rw [this]; exact fin
  | jump c H1 =>
    have hl := scanO_out hS (flat e) []
    rw [ho] at hr fin
    simp only [ho] at hl
    obtain ⟨rfl, rfl⟩ := hr
    simp only [RangeK]
    refine ⟨fn, .done, some c, n, env, #[p], assign, body, ?_, by simp, ?_⟩
    ·rw [← hl.1]; simp [lpB]
    ·have : (H1 ++ [lpB fn n env #[p] assign body LoopState.done (some c)]).set H.length .dead = H1 ++ [.dead] := by rw [← hl.1]; simp
     simp only [this]
     cases c <;> first | exact fin | exact fin.elim
  | panic v H1 =>
    rw [ho] at hr fin
    obtain ⟨rfl, rfl⟩ := hr
    exact fin
 ·intro pre x post hw
  have hid : (Hb pre ++ [lpB fn n env #[p] assign body .ready none])[H.length]? = some (.loop fn .ready none n env #[p] assign body) := by rw [← hpl pre]; simp [lpB]
  refine YSound.of hfn hid hp ?_
  have h1 := round fn pre x post hw
  rw [exT_eq]
  refine TR.mono h1 fun te env2 H2 h2 => ?_
  cases te with
  | normal =>
    obtain ⟨h3, h4⟩ := h2
    refine ⟨fn, none, n, env, #[p], assign, body, h3, ?_⟩
    refine TR.mono h4 fun te env3 H3 h5 => ?_
    have hN : (Hb pre ++ [lpB fn n env #[p] assign body .ready none]).length = H.length + 1 := by simp [hpl]
    have hun : ∀ st pe, blksUnder (H.length + 1) [lpB fn n env #[p] assign body st pe] = true := fun st pe => by simp only [blksUnder, Bool.and_true]; exact henv
    cases te with
    | normal =>
      obtain ⟨g1, g2, g3⟩ := h5
      refine ⟨fn, .busy, none, n, env, #[p], assign, body, g3, ?_, ?_, ?_⟩
      ·rw [hN]; exact (List.getElem?_eq_some_iff.1 g3).1
      ·rw [hN, take_set_last g3, g2]; exact blksUnder_append (hHb _).2 (hun _ _)
      ·rw [hN, take_set_last g3, g2]
       simp only [EachR, scanO, g1]
       (first | exact ⟨trivial, rfl⟩ | exact ⟨trivial, trivial⟩)
    | ret =>
      obtain ⟨H0, g1, g2, g3⟩ := h5
      have g4 := hf pre x
      rw [g1] at g4
      refine ⟨fn, .busy, none, n, env, #[p], assign, body, g3, ?_, ?_, ?_⟩
      ·rw [hN]; exact (List.getElem?_eq_some_iff.1 g3).1
      ·rw [hN, take_set_last g3, g2]; exact blksUnder_append g4.2 (hun _ _)
      ·rw [hN, take_set_last g3, g2]
       simp only [EachR, scanO, g1]
       (first | exact ⟨trivial, rfl⟩ | exact ⟨trivial, trivial⟩)
    | exit i =>
      obtain ⟨H0, g1, g2, g3⟩ := h5
      have g4 := hf pre x
      rw [g1] at g4
      refine ⟨fn, .busy, none, n, env, #[p], assign, body, g3, ?_, ?_, ?_⟩
      ·rw [hN]; exact (List.getElem?_eq_some_iff.1 g3).1
      ·rw [hN, take_set_last g3, g2]; exact blksUnder_append g4.2 (hun _ _)
      ·rw [hN, take_set_last g3, g2]
       simp only [EachR, scanO, g1]
       (first | exact ⟨trivial, rfl⟩ | exact ⟨trivial, trivial⟩)
    | panic v =>
      obtain ⟨H0, g1, g2, g3⟩ := h5
      have g4 := hf pre x
      rw [g1] at g4
      have e3 : H3.take (H.length + 1) = H0 ++ [lpB fn n env #[p] assign body .busy none] := by
       have hl := (List.getElem?_eq_some_iff.1 g3)
       rw [List.take_succ_eq_append_getElem hl.1, g2, hl.2]
      refine ⟨?_, ?_, ?_, ?_⟩
      ·rw [hN]; exact g4.1
      ·rw [hN]; exact (List.getElem?_eq_some_iff.1 g3).1
      ·rw [hN, e3]; exact blksUnder_append g4.2.2 (hun _ _)
      ·rw [hN, e3]
       simp only [EachR, scanO, g1]
       (first | exact ⟨trivial, rfl⟩ | exact ⟨trivial, trivial⟩)
  | ret => exact h2.elim
  | exit i => exact h2.elim
  | panic v => exact h2.elim
def exDepth : Ex → Int
 | .mk _ _ _ _ _ l => (l.attach.map fun x => exDepth x.1).foldl max 0 + 1
decreasing_by
 have := List.sizeOf_lt_of_mem x.2
 simp; omega
theorem exDepth_eq (e : Ex) : exDepth e = (e.args.map exDepth).foldl max 0 + 1 := by cases e; rw [exDepth]; simp [Ex.args]
theorem foldl_max_le (b : Int) : ∀ (l : List Int) (a : Int), a ≤ b → (∀ x ∈ l, x ≤ b) → l.foldl max a ≤ b
 | [], a, h, _ => h
 | x :: l, a, h, h2 => foldl_max_le b l _ (by have := h2 x List.mem_cons_self; omega) (fun y hy => h2 y (List.mem_cons_of_mem _ hy))
theorem foldl_max_ge : ∀ (l : List Int) (a : Int), a ≤ l.foldl max a
 | [], a => Int.le_refl _
 | x :: l, a => by have := foldl_max_ge l (max a x); simp only [List.foldl_cons]; omega
theorem exDepth_le (e : Ex) : 1 ≤ exDepth e ∧ exDepth e ≤ wEx e := by
 generalize hn : wEx e = n
 induction n using Nat.strongRecOn generalizing e with
 | ind n ih =>
   rw [exDepth_eq]
   have h1 := foldl_max_ge (e.args.map exDepth) 0
   have h2 : (e.args.map exDepth).foldl max 0 ≤ (n : Int) - 1 := by
    refine foldl_max_le _ _ _ (by have := wEx_pos e; omega) fun y hy => ?_
    obtain ⟨x, hx, rfl⟩ := List.mem_map.1 hy
    have := wEx_arg hx
    have := (ih (wEx x) (by omega) x rfl).2
    omega
   omega
theorem take_at {α : Type} {l : List α} {k : Nat} (h : k < l.length) : l.take (k + 1) = l.take k ++ [l[k]] := List.take_succ_eq_append_getElem h
theorem depth_sound' : ∀ (m : Nat) (e : Ex), wEx e ≤ m → wEx e ≤ 1000000000 → Pure Tryz.prog 100 [.t (exT e)] (.i (exDepth e)) := by
 intro m
 induction m with
 | zero => intro e he; have := wEx_pos e; omega
 | succ m ih0 =>
   intro e he hb
   have ih : ∀ x ∈ e.args, Pure Tryz.prog 100 [.t (exT x)] (.i (exDepth x)) := fun x hx => ih0 x (by have := wEx_arg hx; omega) (by have := wEx_arg hx; omega)
   clear ih0
   have hll := wEx_args e
   have hdl : ∀ x ∈ e.args, exDepth x ≤ 1000000000 := fun x hx => by have := (exDepth_le x).2; have := wEx_arg hx; omega
   rw [exDepth_eq, exT_eq]
   unfold exC
   generalize e.args = l at ih hll hdl ⊢
   have hml : (l.map exT).length = l.length := List.length_map _
   refine Sound.of tabOk Tryz.func100 (by kernel_rfl) rfl rfl ?_
   repeat' (first | refine wkt ?_ | refine wk ?_ | exact wkc | intro hc | refine wk2 ?_ ?_ | fail)
   refine TR.loopN l.length (fun _ => True) (fun j => [(3, .i (((l.take j).map exDepth).foldl max 0)), (7, .t (.sl 6 (l.map exT))), (8, .i l.length), (9, .i j)]) (fun _ => []) trivial (fun j hlt _ => ?_) (fun _ => ?_) ⟨rfl, rfl, by rw [← hml]; rfl, rfl, trivial⟩
   ·have hx := at_exT hlt
    have hs := ih l[j] (List.getElem_mem hlt)
    rw [exT_eq] at hs
    have hk : ((l.take (j + 1)).map exDepth).foldl max 0 = max (((l.take j).map exDepth).foldl max 0) (exDepth l[j]) := by rw [take_at hlt]; simp only [List.map_append, List.map_cons, List.map_nil, List.foldl_append, List.foldl_cons, List.foldl_nil]
    generalize l[j] = x at hx hs hk
    unfold exC at hx hs
    repeat' (first | refine wkt ?_ | refine wk ?_ | exact wkc | intro hc | refine wk2 ?_ ?_ | refine wv hs ?_ | fail)
    exact LoopK.nextN hlt trivial (by (try dsimp only); rw [hk]; exact ⟨rfl, rfl, rfl, rfl, trivial⟩)
   ·rw [List.take_length]
    have h1 := foldl_max_le 1000000000 (l.map exDepth) 0 (by omega) (fun y hy => by obtain ⟨x, hx, rfl⟩ := List.mem_map.1 hy; exact hdl x hx)
    have h2 := foldl_max_ge (l.map exDepth) 0
    repeat' (first | refine wkt ?_ | refine wk ?_ | exact wkc | intro hc | refine wk2 ?_ ?_ | fail)
    exact wkr
theorem depth_sound (e : Ex) (h : wEx e ≤ 1000000000) : Pure Tryz.prog 100 [.t (exT e)] (.i (exDepth e)) := depth_sound' _ e (Nat.le_refl _) h
theorem depthR_sound' : ∀ (m : Nat) (e : Ex), wEx e ≤ m → wEx e ≤ 1000000000 → Pure Tryz.prog 106 [.t (exT e)] (.i (exDepth e)) := by
 intro m
 induction m with
 | zero => intro e he; have := wEx_pos e; omega
 | succ m ih0 =>
   intro e he hb
   have ih : ∀ x ∈ e.args, Pure Tryz.prog 106 [.t (exT x)] (.i (exDepth x)) := fun x hx => ih0 x (by have := wEx_arg hx; omega) (by have := wEx_arg hx; omega)
   clear ih0
   have hll := wEx_args e
   have hdl : ∀ x ∈ e.args, exDepth x ≤ 1000000000 := fun x hx => by have := (exDepth_le x).2; have := wEx_arg hx; omega
   rw [exDepth_eq, exT_eq]
   have hc0 : exC e = [T.n e.kind, T.n e.op, T.n e.t, T.n e.v, .s e.name, .sl 6 (e.args.map exT)] := rfl
   rw [hc0]
   generalize e.args = l at ih hll hdl ⊢
   have hml : (l.map exT).length = l.length := List.length_map _
   refine Sound.of tabOk Tryz.func106 (by kernel_rfl) rfl rfl ?_
   repeat' (first | refine wkt ?_ | refine wk ?_ | exact wkc | intro hc | refine wk2 ?_ ?_ | fail)
   refine TR.loopN l.length (fun _ => True) (fun j => [(3, .i (((l.take j).map exDepth).foldl max 0)), (1, .cp [T.n e.kind, T.n e.op, T.n e.t, T.n e.v, .s e.name, .sl 6 (l.map exT)] 0), (4, .i j)]) (fun _ => []) trivial (fun j hlt _ => ?_) (fun _ => ?_)
   ·have hx := at_exT hlt
    have hs := ih l[j] (List.getElem_mem hlt)
    rw [exT_eq] at hs
    have hk : ((l.take (j + 1)).map exDepth).foldl max 0 = max (((l.take j).map exDepth).foldl max 0) (exDepth l[j]) := by rw [take_at hlt]; simp only [List.map_append, List.map_cons, List.map_nil, List.foldl_append, List.foldl_cons, List.foldl_nil]
    generalize l[j] = x at hx hs hk
    unfold exC at hx hs
    repeat' (first | refine wkt ?_ | refine wk ?_ | exact wkc | intro hc | refine wk2 ?_ ?_ | refine wv hs ?_ | fail)
    exact LoopK.nextN hlt trivial (by (try dsimp only); rw [hk]; exact ⟨rfl, rfl, rfl, trivial⟩)
   ·rw [List.take_length]
    have h1 := foldl_max_le 1000000000 (l.map exDepth) 0 (by omega) (fun y hy => by obtain ⟨x, hx, rfl⟩ := List.mem_map.1 hy; exact hdl x hx)
    have h2 := foldl_max_ge (l.map exDepth) 0
    repeat' (first | refine wkt ?_ | refine wk ?_ | exact wkc | intro hc | refine wk2 ?_ ?_ | fail)
    exact wkr
theorem depthR_sound (e : Ex) (h : wEx e ≤ 1000000000) : Pure Tryz.prog 106 [.t (exT e)] (.i (exDepth e)) := depthR_sound' _ e (Nat.le_refl _) h
theorem sum_take_le (f : Ex → Nat) (l : List Ex) (j : Nat) : ((l.take j).map f).sum ≤ (l.map f).sum := by
 conv => rhs; rw [← List.take_append_drop j l]
 rw [List.map_append, List.sum_append]; omega
theorem sizeR6_sound' : ∀ (m : Nat) (e : Ex), wEx e ≤ m → wEx e ≤ 1000000000 → Pure Tryz.prog 105 [.t (exT e)] (.i (wEx e)) := by
 intro m
 induction m with
 | zero => intro e he; have := wEx_pos e; omega
 | succ m ih0 =>
   intro e he hb
   have ih : ∀ x ∈ e.args, Pure Tryz.prog 105 [.t (exT x)] (.i (wEx x)) := fun x hx => ih0 x (by have := wEx_arg hx; omega) (by have := wEx_arg hx; omega)
   clear ih0
   have hll := wEx_args e
   rw [wEx_eq] at hb hll ⊢
   rw [exT_eq]
   have hc0 : exC e = [T.n e.kind, T.n e.op, T.n e.t, T.n e.v, .s e.name, .sl 6 (e.args.map exT)] := rfl
   rw [hc0]
   generalize e.args = l at ih hll hb ⊢
   have hml : (l.map exT).length = l.length := List.length_map _
   refine Sound.of tabOk Tryz.func105 (by kernel_rfl) rfl rfl ?_
   repeat' (first | refine wkt ?_ | refine wk ?_ | exact wkc | intro hc | refine wk2 ?_ ?_ | fail)
   refine TR.loopN l.length (fun _ => True) (fun j => [(3, .i ((1 + ((l.take j).map wEx).sum : Nat) : Int)), (1, .cp [T.n e.kind, T.n e.op, T.n e.t, T.n e.v, .s e.name, .sl 6 (l.map exT)] 0), (4, .i j)]) (fun _ => []) trivial (fun j hlt _ => ?_) (fun _ => ?_)
   ·have hx := at_exT hlt
    have hs := ih l[j] (List.getElem_mem hlt)
    rw [exT_eq] at hs
    have hk : ((l.take (j + 1)).map wEx).sum = ((l.take j).map wEx).sum + wEx l[j] := by rw [take_at hlt]; simp only [List.map_append, List.map_cons, List.map_nil, List.sum_append, List.sum_cons, List.sum_nil, Nat.add_zero]
    have hle := sum_take_le wEx l (j + 1)
    generalize l[j] = x at hx hs hk
    unfold exC at hx hs
    repeat' (first | refine wkt ?_ | refine wk ?_ | exact wkc | intro hc | refine wk2 ?_ ?_ | refine wv hs ?_ | fail)
    exact LoopK.nextN hlt trivial (by (try dsimp only); rw [hk, ← Nat.add_assoc]; exact ⟨rfl, rfl, rfl, trivial⟩)
   ·rw [List.take_length]
    repeat' (first | refine wkt ?_ | refine wk ?_ | exact wkc | intro hc | refine wk2 ?_ ?_ | fail)
    exact wkr
theorem sizeR6_sound (e : Ex) (h : wEx e ≤ 1000000000) : Pure Tryz.prog 105 [.t (exT e)] (.i (wEx e)) := sizeR6_sound' _ e (Nat.le_refl _) h
end Go.Proofs.YtonjiabmcbdhdaaGreat
