import Derived.Test.YtlocalghkiepmaaGreatPk24
import Derived.Test.YtlocalghkiepmaaGreatPk35
import Derived.Test.YtlocalghkiepmaaGreatPk36
import Derived.Test.YtlocalghkiepmaaGreatPk39
import Derived.Test.YtlocalghkiepmaaGreatPk40
set_option linter.unusedSimpArgs false
set_option linter.unusedVariables false
namespace Go.Proofs.YtlocalghkiepmaaGreat
open Go Go.TL
attribute [local irreducible] TR TO Then InBlock RetK Sound LoopK Kf GG ThenL
theorem cond11_sound (w : Plc) (hw : SmallW w) (c : Ex) (hc : ExT c) : Pure Tryz.prog 80 [.t (.ag (progC w.p)), .i w.node.1, .t (declsT w.env), .t (.ag (exC c))] (.i (condT w c)) := by
 have hs := resultsR_sound w hw c hc.1 hc.2 false
 unfold condT
 generalize resT w false c = r at *
 obtain ⟨l, f⟩ := r
 rw [exT_eq] at hs
 simp only at *
 have hml : (l.map T.i).length = l.length := List.length_map _
 have hx0 : 0 < l.length → (l.map T.i)[(0 : Int).toNat]? = some (T.i (l.headD 0)) := by cases l with | nil => simp | cons a l => intro _; rfl
 generalize l.headD 0 = t0 at *
 unfold exC progC at *
 clear hc
 by_cases hl : l.length = 1
 ·have hx := hx0 (by omega)
  refine Sound.of tabOk Tryz.func80 (by kernel_rfl) rfl rfl ?_
  repeat' (first | refine wkt ?_ | refine wk ?_ | exact wkc | intro hc | refine wk2 ?_ ?_ | refine wv hs ?_ | fail)
  all_goals (refine RetK.pure rfl (Le.of_eq ?_) rfl; refine congrArg (fun z => SV.t (T.v (Value.int IntKind.i64 z))) ?_; clear hs; grind)
 ·refine Sound.of tabOk Tryz.func80 (by kernel_rfl) rfl rfl ?_
  repeat' (first | refine wkt ?_ | refine wk ?_ | exact wkc | intro hc | refine wk2 ?_ ?_ | refine wv hs ?_ | fail)
  all_goals (refine RetK.pure rfl (Le.of_eq ?_) rfl; refine congrArg (fun z => SV.t (T.v (Value.int IntKind.i64 z))) ?_; clear hs; grind)
theorem trans11_sound (w : Plc) (hw : SmallW w) (l : List Tran) (hl : l.length ≤ 1000000000) (hc : ∀ t ∈ l, ExT t.cond) : Pure Tryz.prog 146 [.t (.ag (progC w.p)), .i w.node.1, .t (declsT w.env), .t (.sl 8 (l.map tranT))] (.i (firstE (fun t : Tran => condT w t.cond) l)) := by
 have hml : (l.map tranT).length = l.length := List.length_map _
 have he := fun (t : Tran) (ht : t ∈ l) => cond11_sound w hw t.cond (hc t ht)
 unfold progC at *
 refine Sound.of tabOk Tryz.func146 (by kernel_rfl) rfl rfl ?_
 repeat' (first | refine wkt ?_ | refine wk ?_ | exact wkc | intro hc | refine wk2 ?_ ?_ | fail)
 refine TR.loopN l.length (fun k => firstE (fun t : Tran => condT w t.cond) (l.take k) = 0) (fun k => [(1, .i w.node.1), (2, .t (declsT w.env)), (3, .t (.sl 8 (l.map tranT))), (4, .cp [.sl 2 (w.p.enums.map enT), nodesT w.p.nodes] 0), (9, .i k)]) (fun _ => []) rfl (fun k hlt hk => ?_) (fun hk => ?_)
 ·have hx := at_map tranT hlt
  have hi := he _ (List.getElem_mem hlt)
  have htk := firstE_take hlt hk
  have hat := firstE_at hlt hk
  generalize l[k] = t at *
  generalize condT w t.cond = r at *
  unfold tranT at hx
  unfold exC at hi
  repeat' (first | refine wkt ?_ | refine wka ?_ | refine rg [.t (.ag [.sl 2 (w.p.enums.map enT), nodesT w.p.nodes]), .i w.node.1, .t (declsT w.env), .t (.sl 8 (l.map tranT)), .i k, .cp [T.n t.cond.kind, T.n t.cond.op, T.n t.cond.t, T.n t.cond.v, .s t.cond.name, .sl 6 (t.cond.args.map exT), T.n t.to, .b t.resume] 0, .cp [T.n t.cond.kind, T.n t.cond.op, T.n t.cond.t, T.n t.cond.v, .s t.cond.name, .sl 6 (t.cond.args.map exT), T.n t.to, .b t.resume] 0, .t (.ag [T.n t.cond.kind, T.n t.cond.op, T.n t.cond.t, T.n t.cond.v, .s t.cond.name, .sl 6 (t.cond.args.map exT)]), .i r, .i r] ?_ ?_ | refine wv hi ?_ | exact trivial | exact And.intro rfl rfl | refine And.intro (fun H env => ?_) ?_ | refine wk ?_ | exact wkc | intro hc | refine wk2 ?_ ?_ | fail)
  ·rw [hat hc]; exact wkr
  ·exact LoopK.nextN hlt (by rw [htk]; exact Decidable.not_not.1 hc)
 ·rw [List.take_length] at hk
  rw [hk]
  repeat' (first | refine wkt ?_ | refine wk ?_ | exact wkc | intro hc | refine wk2 ?_ ?_ | fail)
  exact wkr
theorem firstI_zero {α : Type} {g : α → Int} : ∀ {l : List α}, firstE g l = 0 → firstI g l = (0, 0)
 | [], _ => rfl
 | x :: l, h => by
   rw [firstE] at h
   by_cases h0 : g x = 0
   ·rw [if_pos h0] at h
    rw [firstI, if_pos h0, firstI_zero h]; rfl
   ·rw [if_neg h0] at h; exact absurd h h0
set_option maxHeartbeats 2000000 in
theorem eqs11_sound (w : Plc) (hw : SmallW w) (l : List Equ) (hl : l.length ≤ 1000000000) (hq : ∀ u ∈ l, u.left.length ≤ 1000000000 ∧ ExT u.right) : Pure Tryz.prog 39 [.t (.ag (progC w.p)), .i w.node.1, .t (declsT w.env), .t (.sl 7 (l.map equT))] (.tup [.i (firstI (eqnT w) l).1, .i (firstI (eqnT w) l).2]) := by
 have hml : (l.map equT).length = l.length := List.length_map _
 have hs := fun (u : Equ) (hu : u ∈ l) => resultsR_sound w hw u.right (hq u hu).2.1 (hq u hu).2.2 false
 have hty := fun s => typeR_sound w.env s hw.env
 unfold progC at *
 refine Sound.of tabOk Tryz.func39 (by kernel_rfl) rfl rfl ?_
 repeat' (first | refine wkt ?_ | refine wk ?_ | exact wkc | intro hc | refine wk2 ?_ ?_ | fail)
 refine TR.loopN l.length (fun k => firstE (eqnT w) (l.take k) = 0) (fun k => [(1, .i w.node.1), (2, .t (declsT w.env)), (3, .t (.sl 7 (l.map equT))), (4, .cp [.sl 2 (w.p.enums.map enT), nodesT w.p.nodes] 0), (10, .i k)]) (fun _ => []) rfl (fun k hlt hk => ?_) (fun hk => ?_)
 ·have hx := at_equ hlt
  have hi := hs _ (List.getElem_mem hlt)
  have htk := firstE_take hlt hk
  have hat := firstI_at hlt hk
  have hql := (hq _ (List.getElem_mem hlt)).1
  generalize l[k] = u at *
  generalize hz : eqnT w u = z at *
  unfold eqnT at hz
  generalize resT w false u.right = r at *
  obtain ⟨t, f⟩ := r
  simp only at hi hz
  have hmt : (t.map T.i).length = t.length := List.length_map _
  have hmq : (u.left.map T.s).length = u.left.length := List.length_map _
  rw [exT_eq] at hi
  unfold exC at hi
  unfold equC at hx
  generalize firstI (eqnT w) l = R at *
  clear hs hq
  repeat' (first | refine wkt ?_ | refine wka ?_ | refine rg [.t (.ag [.sl 2 (w.p.enums.map enT), nodesT w.p.nodes]), .i w.node.1, .t (declsT w.env), .t (.sl 7 (l.map equT)), .i k, .cp [.sl 1 (u.left.map T.s), T.n u.right.kind, T.n u.right.op, T.n u.right.t, T.n u.right.v, .s u.right.name, .sl 6 (u.right.args.map exT)] 0, .cp [.sl 1 (u.left.map T.s), T.n u.right.kind, T.n u.right.op, T.n u.right.t, T.n u.right.v, .s u.right.name, .sl 6 (u.right.args.map exT)] 1, .t (.ag [T.n u.right.kind, T.n u.right.op, T.n u.right.t, T.n u.right.v, .s u.right.name, .sl 6 (u.right.args.map exT)]), .tup [.t (intsT t), .i f], .tup [.t (intsT t), .i f], .t (intsT t), .i f, .t (intsT t), .i f] ?_ ?_ | refine wv hi ?_ | exact trivial | exact And.intro rfl rfl | refine And.intro (fun H env => ?_) ?_ | refine wk ?_ | exact wkc | intro hc | refine wk2 ?_ ?_ | fail)
  ·rw [if_pos hc] at hz
   subst hz
   rw [hat hc]; exact wkr
  ·rename_i c1
   rw [if_neg c1, if_pos (by omega)] at hz
   subst hz
   rw [hat (by decide)]; exact wkr
  ·rename_i c1
   have hll : t.length = u.left.length := by omega
   rw [if_neg c1, if_neg (by omega)] at hz
   refine TR.loopN t.length (fun j => (u.left.take j).map (fun s => (lookT w.env s).1) = t.take j) (fun j => [(1, .i w.node.1), (2, .t (declsT w.env)), (3, .t (.sl 7 (l.map equT))), (4, .cp [.sl 2 (w.p.enums.map enT), nodesT w.p.nodes] 0), (10, .i k), (11, .t (intsT t)), (13, .i j)]) (fun _ => []) rfl (fun j hlj hj => ?_) (fun hj => ?_)
   ·have hy := at_strs (show j < u.left.length by omega)
    have hv := at_ints hlj
    have ht1 := take_at (l := u.left) (show j < u.left.length by omega)
    have ht2 := take_at hlj
    have hty := hty (u.left[j]'(by omega))
    have hne : (lookT w.env (u.left[j]'(by omega))).1 ≠ t[j] → u.left.map (fun s => (lookT w.env s).1) ≠ t := fun h e => h (by
     have := congrArg (fun l => l[j]?) e
     simp only [List.getElem?_map, List.getElem?_eq_getElem (show j < u.left.length by omega), List.getElem?_eq_getElem hlj, Option.map_some] at this
     exact Option.some.inj this)
    generalize u.left[j]'(by omega) = s at *
    generalize t[j] = v at *
    generalize hqq : (lookT w.env s).1 = q1 at *
    generalize (lookT w.env s).2 = q2 at *
    repeat' (first | refine wkt ?_ | refine wka ?_ | refine wv hty ?_ | refine wk ?_ | exact wkc | intro hc | refine wk2 ?_ ?_ | fail)
    ·rw [if_neg (hne hc)] at hz
     subst hz
     rw [hat (by decide)]; exact wkr
    ·refine LoopK.nextN hlj ?_
     rw [ht1, ht2, List.map_append, hj]
     simp only [List.map_cons, List.map_nil]
     rw [hqq, Decidable.not_not.1 hc]
   ·rw [List.take_length, hll, List.take_length] at hj
    rw [if_pos hj] at hz
    repeat' (first | refine wkt ?_ | refine wka ?_ | refine wk ?_ | exact wkc | intro hc | refine wk2 ?_ ?_ | fail)
    exact LoopK.nextN hlt (by rw [htk]; exact hz.symm)
 ·rw [List.take_length] at hk
  rw [firstI_zero hk]
  repeat' (first | refine wkt ?_ | refine wk ?_ | exact wkc | intro hc | refine wk2 ?_ ?_ | fail)
  exact wkr
end Go.Proofs.YtlocalghkiepmaaGreat
namespace Go.Proofs.YtlocalghkiepmaaGreat
open Go Go.TL
attribute [local irreducible] TR TO Then InBlock RetK Sound LoopK Kf GG ThenL
attribute [local irreducible] WeakK
set_option maxHeartbeats 4000000 in
theorem auts11_sound : ∀ (k : Nat) (w : Plc), SmallW w → ∀ (l : List Auto), l.length ≤ 1000000000 → (∀ a ∈ l, nestOk k a ∧ tyA k a ∧ (autoT a).w + w.env.length ≤ 1000000000) →
  Pure Tryz.prog 79 [.t (.ag (progC w.p)), .i w.node.1, .t (declsT w.env), .t (.sl 1 (l.map autoT))] (.i (firstE (autoTy k w) l)) := by
 intro k
 induction k with
 | zero =>
   intro w hw l hl ha
   obtain rfl : l = [] := by
    cases l with
    | nil => rfl
    | cons a l => exact (ha a (by simp)).1.elim
   unfold progC
   refine Sound.of tabOk Tryz.func79 (by kernel_rfl) rfl rfl ?_
   repeat' (first | refine wkt ?_ | refine wk ?_ | fail)
   refine TR.loopN 0 (fun _ => True) (fun j => [(3, .t (.sl 1 [])), (9, .i j)]) (fun _ => []) trivial (fun j h _ => absurd h (Nat.not_lt_zero j)) (fun _ => ?_)
   repeat' (first | refine wkt ?_ | refine wk ?_ | exact wkc | intro hc | refine wk2 ?_ ?_ | fail)
   exact wkr
 | succ k ih =>
   intro w hw l hl ha
   have hml : (l.map autoT).length = l.length := List.length_map _
   unfold progC
   refine Sound.of tabOk Tryz.func79 (by kernel_rfl) rfl rfl ?_
   repeat' (first | refine wkt ?_ | refine wk ?_ | fail)
   refine TR.loopN l.length (fun j => firstE (autoTy (k + 1) w) (l.take j) = 0) (fun j => [(1, .i w.node.1), (2, .t (declsT w.env)), (3, .t (.sl 1 (l.map autoT))), (4, .cp [.sl 2 (w.p.enums.map enT), nodesT w.p.nodes] 0), (9, .i j)]) (fun _ => []) rfl (fun j hlj hj => ?_) (fun hj => ?_)
   ·have hx := at_auto hlj
    have htk := firstE_take hlj hj
    have hat := firstE_at hlj hj
    obtain ⟨hn, hty, hwa⟩ := ha _ (List.getElem_mem hlj)
    generalize l[j] = a at *
    have hwa2 := w_auto a
    have hls := w_lenM staT 6 a.states
    have hms : (a.states.map staT).length = a.states.length := List.length_map _
    unfold autoC at hx
    rw [show autoTy (k + 1) w a = firstE (stTy w (autoTy k)) a.states from rfl] at htk hat
    generalize firstE (autoTy (k + 1) w) l = R at *
    repeat' (first | refine wkt ?_ | refine wk ?_ | exact wkc | intro hc | refine wk2 ?_ ?_ | fail)
    refine TR.loopN a.states.length (fun i => firstE (stTy w (autoTy k)) (a.states.take i) = 0) (fun i => [(1, .i w.node.1), (2, .t (declsT w.env)), (3, .t (.sl 1 (l.map autoT))), (4, .cp [.sl 2 (w.p.enums.map enT), nodesT w.p.nodes] 0), (9, .i j), (10, .i i)]) (fun _ => []) rfl (fun i hli hi => ?_) (fun hi => ?_)
    ·have hy := at_sta hli
     have htk2 := firstE_take hli hi
     have hat2 := firstE_at hli hi
     have hwx := w_inM (f := staT) (sz := 6) (List.getElem_mem hli)
     obtain ⟨e1, e2, e3, e4⟩ := hty _ (List.getElem_mem hli)
     have hnb := hn _ (List.getElem_mem hli)
     generalize a.states[i] = x at *
     have hws := w_sta x
     have b1 := w_lenM declT 3 x.locals
     have b2 := w_lenM equT 7 x.eqs
     have b3 := w_lenM autoT 1 x.autos
     have b4 := w_lenM tranT 8 x.unl
     have b5 := w_lenM tranT 8 x.unt
     have hdl : (declsT x.locals).w = (T.sl 3 (x.locals.map declT)).w := rfl
     have hwi : SmallW ⟨w.p, w.node, x.locals ++ w.env⟩ := hw.more (by omega)
     have t1 := trans11_sound w hw x.unl (by omega) e2
     have t2 := eqs11_sound ⟨w.p, w.node, x.locals ++ w.env⟩ hwi x.eqs (by omega) e1
     have t3 := ih ⟨w.p, w.node, x.locals ++ w.env⟩ hwi x.autos (by omega) (fun b hb => ⟨hnb b hb, e4 b hb, by
      have := w_inM (f := autoT) (sz := 1) hb
      simp only [List.length_append]; omega⟩)
     have t4 := trans11_sound ⟨w.p, w.node, x.locals ++ w.env⟩ hwi x.unt (by omega) e3
     have hz : stTy w (autoTy k) x = orE (firstE (fun t : Tran => condT w t.cond) x.unl) (orE (firstE (eqnT ⟨w.p, w.node, x.locals ++ w.env⟩) x.eqs) (orE (firstE (autoTy k ⟨w.p, w.node, x.locals ++ w.env⟩) x.autos) (firstE (fun t : Tran => condT ⟨w.p, w.node, x.locals ++ w.env⟩ t.cond) x.unt))) := rfl
     rw [← firstI_snd (eqnT ⟨w.p, w.node, x.locals ++ w.env⟩)] at hz
     rw [show declsT (x.locals ++ w.env) = .sl 3 (x.locals.map declT ++ w.env.map declT) from by simp [declsT]] at t2 t3 t4
     generalize stTy w (autoTy k) x = z at *
     generalize firstE (fun t : Tran => condT w t.cond) x.unl = z1 at *
     generalize firstI (eqnT ⟨w.p, w.node, x.locals ++ w.env⟩) x.eqs = z2 at *
     generalize firstE (autoTy k ⟨w.p, w.node, x.locals ++ w.env⟩) x.autos = z3 at *
     generalize firstE (fun t : Tran => condT ⟨w.p, w.node, x.locals ++ w.env⟩ t.cond) x.unt = z4 at *
     obtain ⟨z2a, z2⟩ := z2
     simp only at t2 hz
     unfold staC at hy
     unfold progC at t1 t2 t3 t4
     have m1 : (x.locals.map declT).length = x.locals.length := List.length_map _
     have m2 : (w.env.map declT).length = w.env.length := List.length_map _
     have hret : z ≠ 0 → R = z := fun h => by rw [hat2 h] at hat; exact hat h
     clear ih ha hat hat2 hwi e1 e2 e3 e4
     repeat' (first | refine wkt ?_ | refine wk ?_ | fail)
     refine wk2 ?_ ?_ <;> intro hlt' <;> try (exfalso; omega)
     repeat' (first | refine wkt ?_ | refine wv t1 ?_ | refine wk ?_ | fail)
     refine wk2 (fun hc => ?_) (fun hc => ?_)
     ·repeat' (first | refine wkt ?_ | refine wk ?_ | fail)
      have hzz : z = z1 := by clear t1 t2 t3 t4; grind [orE]
      rw [hret (by rw [hzz]; exact hc), hzz]; exact wkr
     ·repeat' (first | (apply TO.build0 tabOk; (iterate 5 exact rfl)) | (apply TO.append0 tabOk; (iterate 13 exact rfl); (first | omega | (simp only [List.length_map]; omega)); exact rfl) | refine Go.TL.TR.region ?_ | (apply Go.TL.TO.go tabOk 1 true; exact rfl; (first | apply Go.TL.GG.to | apply Go.TL.GG.stop | apply Go.TL.GG.tr0 | apply Go.TL.GG.tr | apply Go.TL.GG.ex)) | (apply Go.TL.TR.go0 tabOk 1 true; exact rfl; (first | apply Go.TL.GG.to | apply Go.TL.GG.stop | apply Go.TL.GG.tr0 | apply Go.TL.GG.tr | apply Go.TL.GG.ex)) | (apply Go.TL.TR.go tabOk 1 true; exact rfl; (first | apply Go.TL.GG.to | apply Go.TL.GG.stop | apply Go.TL.GG.tr0 | apply Go.TL.GG.tr | apply Go.TL.GG.ex)) | (apply Go.TL.TExit.go tabOk 1 true; exact rfl; (first | apply Go.TL.GG.to | apply Go.TL.GG.stop | apply Go.TL.GG.tr0 | apply Go.TL.GG.tr | apply Go.TL.GG.ex)) | fail)
      repeat' (first | refine wkt ?_ | refine wv t2 ?_ | refine wv t3 ?_ | refine wv t4 ?_ | refine wk ?_ | exact wkc | intro hc | refine wk2 ?_ ?_ | fail)
      ·have hzz : z = z2 := by clear t1 t2 t3 t4; grind [orE]
       rw [hret (by rw [hzz]; assumption), hzz]; exact wkr
      ·have hzz : z = z3 := by clear t1 t2 t3 t4; grind [orE]
       rw [hret (by rw [hzz]; assumption), hzz]; exact wkr
      ·have hzz : z = z4 := by clear t1 t2 t3 t4; grind [orE]
       rw [hret (by rw [hzz]; assumption), hzz]; exact wkr
      ·have hzz : z = 0 := by clear t1 t2 t3 t4; grind [orE]
       exact LoopK.nextC 0 hli (by rw [htk2]; exact hzz) rfl rfl rfl rfl rfl
    ·rw [List.take_length] at hi
     repeat' (first | refine wkt ?_ | refine wk ?_ | exact wkc | intro hc | refine wk2 ?_ ?_ | fail)
     exact LoopK.nextN hlj (by rw [htk]; exact hi)
   ·rw [List.take_length] at hj
    rw [hj]
    repeat' (first | refine wkt ?_ | refine wk ?_ | exact wkc | intro hc | refine wk2 ?_ ?_ | fail)
    exact wkr
end Go.Proofs.YtlocalghkiepmaaGreat
namespace Go.Proofs.YtlocalghkiepmaaGreat
open Go Go.TL
attribute [local irreducible] TR TO Then InBlock RetK Sound LoopK Kf GG ThenL
theorem nI_val' {k : Nat} (h : (k : Int) ≤ 9223372036854775807) : (nI k).1 = k := by unfold nI; rw [dif_pos h]
set_option maxHeartbeats 4000000 in
theorem rest11_sound (w : Plc) (hw : SmallW w) (k : Nat) (hk : k < w.p.nodes.length) (hnk : w.node.1 = k) (hT : NodTy w.p.nodes[k]) (hwe : w.env.length ≤ 300000000) : Pure Tryz.prog 40 [.t (.ag (progC w.p)), .i w.node.1, .t (declsT w.env)] (.i (restTy w w.p.nodes[k])) := by
 have hx := at_nod hk
 have hml : (w.p.nodes.map nodT).length = w.p.nodes.length := List.length_map _
 generalize w.p.nodes[k] = n at *
 have hok2 := hT.w
 have hwn := w_nod n
 have b2 := w_lenM autoT 1 n.autos
 have b3 := w_lenM exT 6 n.assume
 have b4 := w_lenM exT 6 n.ensure
 have m4 : (n.assume.map exT).length = n.assume.length := List.length_map _
 have m5 : (n.ensure.map exT).length = n.ensure.length := List.length_map _
 have hau := auts11_sound 3 w hw n.autos (by omega) (fun a ha => ⟨hT.nest a ha, hT.tyA a ha, by have := w_inM (f := autoT) (sz := 1) ha; omega⟩)
 have has := fun (e : Ex) (he : e ∈ n.assume) => cond11_sound w hw e (hT.assume e he)
 have hen := fun (e : Ex) (he : e ∈ n.ensure) => cond11_sound w hw e (hT.ensure e he)
 have hz : restTy w n = orE (firstE (autoTy 3 w) n.autos) (orE (firstE (condT w) n.assume) (firstE (condT w) n.ensure)) := rfl
 generalize restTy w n = z at *
 generalize firstE (autoTy 3 w) n.autos = z1 at *
 unfold progC nodC at *
 rw [show (w.p.nodes.map nodT)[k]? = (w.p.nodes.map nodT)[w.node.1.toNat]? from by rw [hnk, Int.toNat_natCast]] at hx
 have hn1 : 0 ≤ w.node.1 := by omega
 have hn2 : w.node.1 < w.p.nodes.length := by omega
 refine Sound.of tabOk Tryz.func40 (by kernel_rfl) rfl rfl ?_
 repeat' (first | refine wkt ?_ | refine wka ?_ | refine wv hau ?_ | refine wk ?_ | exact wkc | intro hc | refine wk2 ?_ ?_ | fail)
 ·have hzz : z = z1 := by clear hau has hen; grind [orE]
  rw [hzz]; exact wkr
 have hz1 : z1 = 0 := Decidable.not_not.1 hc
 subst hz1
 rw [show ∀ b, orE 0 b = b from fun b => if_pos rfl] at hz
 refine TR.loopN n.assume.length (fun j => firstE (condT w) (n.assume.take j) = 0) (fun j => [(1, .i w.node.1), (2, .t (declsT w.env)), (3, .cp [.sl 2 (w.p.enums.map enT), nodesT w.p.nodes] 0), (7, .cp [.s n.name, declsT n.ins, declsT n.outs, declsT n.locals, .sl 7 (n.eqs.map equT), .sl 1 (n.autos.map autoT), .sl 6 (n.assume.map exT), .sl 6 (n.ensure.map exT)] 0), (9, .i j)]) (fun _ => []) rfl (fun j hlj hj => ?_) (fun hj => ?_)
 ·have hxj := at_exT hlj
  have hi := has _ (List.getElem_mem hlj)
  have htk := firstE_take hlj hj
  have hat := firstE_at hlj hj
  generalize n.assume[j] = x at *
  generalize condT w x = r at *
  unfold exC at hxj hi
  clear hau has hen
  repeat' (first | refine wkt ?_ | refine wka ?_ | refine rg [.t (.ag [.sl 2 (w.p.enums.map enT), nodesT w.p.nodes]), .i w.node.1, .t (declsT w.env), .cp [.s n.name, declsT n.ins, declsT n.outs, declsT n.locals, .sl 7 (n.eqs.map equT), .sl 1 (n.autos.map autoT), .sl 6 (n.assume.map exT), .sl 6 (n.ensure.map exT)] 6, .t (.sl 6 (n.assume.map exT)), .i j, .cp [T.n x.kind, T.n x.op, T.n x.t, T.n x.v, .s x.name, .sl 6 (x.args.map exT)] 0, .t (.ag [T.n x.kind, T.n x.op, T.n x.t, T.n x.v, .s x.name, .sl 6 (x.args.map exT)]), .i r, .i r] ?_ ?_ | refine wv hi ?_ | exact trivial | exact And.intro rfl rfl | refine And.intro (fun H env => ?_) ?_ | refine And.intro (fun env => ?_) ?_ | refine wk ?_ | exact wkc | intro hc | refine wk2 ?_ ?_ | fail)
  ·rw [hat hc] at hz
   have hzz : z = r := by clear hi; grind [orE]
   rw [hzz]; exact wkr
  ·exact LoopK.nextN hlj (by rw [htk]; exact Decidable.not_not.1 hc)
 rw [List.take_length] at hj
 rw [hj] at hz
 rw [show ∀ b, orE 0 b = b from fun b => if_pos rfl] at hz
 repeat' (first | refine wkt ?_ | refine wk ?_ | exact wkc | intro hc | refine wk2 ?_ ?_ | fail)
 refine TR.loopN n.ensure.length (fun j => firstE (condT w) (n.ensure.take j) = 0) (fun j => [(1, .i w.node.1), (2, .t (declsT w.env)), (3, .cp [.sl 2 (w.p.enums.map enT), nodesT w.p.nodes] 0), (7, .cp [.s n.name, declsT n.ins, declsT n.outs, declsT n.locals, .sl 7 (n.eqs.map equT), .sl 1 (n.autos.map autoT), .sl 6 (n.assume.map exT), .sl 6 (n.ensure.map exT)] 0), (10, .i j)]) (fun _ => []) rfl (fun j hlj hj => ?_) (fun hj => ?_)
 ·have hxj := at_exT hlj
  have hi := hen _ (List.getElem_mem hlj)
  have htk := firstE_take hlj hj
  have hat := firstE_at hlj hj
  generalize n.ensure[j] = x at *
  generalize condT w x = r at *
  unfold exC at hxj hi
  clear hau has hen
  repeat' (first | refine wkt ?_ | refine wka ?_ | refine rg [.t (.ag [.sl 2 (w.p.enums.map enT), nodesT w.p.nodes]), .i w.node.1, .t (declsT w.env), .cp [.s n.name, declsT n.ins, declsT n.outs, declsT n.locals, .sl 7 (n.eqs.map equT), .sl 1 (n.autos.map autoT), .sl 6 (n.assume.map exT), .sl 6 (n.ensure.map exT)] 7, .t (.sl 6 (n.ensure.map exT)), .i j, .cp [T.n x.kind, T.n x.op, T.n x.t, T.n x.v, .s x.name, .sl 6 (x.args.map exT)] 0, .t (.ag [T.n x.kind, T.n x.op, T.n x.t, T.n x.v, .s x.name, .sl 6 (x.args.map exT)]), .i r, .i r] ?_ ?_ | refine wv hi ?_ | exact trivial | exact And.intro rfl rfl | refine And.intro (fun H env => ?_) ?_ | refine And.intro (fun env => ?_) ?_ | refine wk ?_ | exact wkc | intro hc | refine wk2 ?_ ?_ | fail)
  ·rw [hat hc] at hz
   have hzz : z = r := by clear hi; grind [orE]
   rw [hzz]; exact wkr
  ·exact LoopK.nextN hlj (by rw [htk]; exact Decidable.not_not.1 hc)
 rw [List.take_length] at hj
 rw [hj] at hz
 subst hz
 repeat' (first | refine wkt ?_ | refine wk ?_ | exact wkc | intro hc | refine wk2 ?_ ?_ | fail)
 exact wkr
def typesR (p : Prog) : (Int × Int) × Int := if (chk10 p).2 ≠ 0 then chk10 p else tyNods p p.nodes.zipIdx
set_option maxHeartbeats 4000000 in
theorem check11_sound (p : Prog) (hw : (T.ag (progC p)).w ≤ 100000000) (hsn : (chk10 p).2 = 0 → (shapeX p).2 = 0) : Pure Tryz.prog 12 [.t (.ag (progC p))] (.tup [.t (.ag [T.i (typesR p).1.1, T.i (typesR p).1.2]), .i (typesR p).2]) := by
 have hsh := check10_sound p hw
 obtain ⟨hP, hln, hpl⟩ := smallP_of hw
 have hml : (p.nodes.map nodT).length = p.nodes.length := List.length_map _
 have hzn : p.nodes.zipIdx.length = p.nodes.length := by simp
 have hR : typesR p = typesR p := rfl
 conv at hR => rhs; unfold typesR
 generalize typesR p = R at hR ⊢
 by_cases hs0 : (chk10 p).2 ≠ 0
 ·rw [if_pos hs0] at hR
  generalize chk10 p = z at *
  obtain ⟨⟨z1, z2⟩, z3⟩ := z
  simp only at hs0 hsh
  unfold progC at *
  refine Sound.of tabOk Tryz.func12 (by kernel_rfl) rfl rfl ?_
  repeat' (first | refine wkb ?_ | refine wv hsh ?_ | (apply TO.store tabOk; (iterate 6 exact rfl); exact Nat.le_of_ble_eq_true rfl; exact rfl; exact Nat.le_of_ble_eq_true rfl; exact rfl) | exact trivial | exact And.intro rfl rfl | refine And.intro (fun H env => ?_) ?_ | refine And.intro (fun env => ?_) ?_ | refine wk ?_ | exact wkc | intro hc | refine wk2 ?_ ?_ | fail)
  all_goals first
   | (exfalso; omega)
   | (rw [hR]; exact wkr)
 rw [if_neg hs0] at hR
 have hs1 : (chk10 p).2 = 0 := Decidable.not_not.1 hs0
 have hty := fun (n : Nod) (hn : n ∈ p.nodes) => node_ty (shape_nodes (hsn hs1) n hn) (hln n hn)
 rw [hs1] at hsh
 generalize (chk10 p).1 = z at *
 obtain ⟨w1, w2⟩ := z
 have hvars := fun (n : Nod) (hn : n ∈ p.nodes) => varsR_sound n (hP.each n hn)
 have hvl := fun (n : Nod) (hn : n ∈ p.nodes) => (show (varsL n).length ≤ 300000000 by have := (hP.each n hn); have h1 := this.ins; have h2 := this.outs; have h3 := this.locals; simp [varsL]; omega)
 have hwk : ∀ k (hk : k < p.nodes.length), SmallW ⟨p, nI k, varsL p.nodes[k]⟩ := fun k hk => ⟨hP.nodes, hP.each, by have := hvl _ (List.getElem_mem hk); show (varsL p.nodes[k]).length ≤ _; omega⟩
 have heqs := fun k (hk : k < p.nodes.length) => eqs11_sound ⟨p, nI k, varsL p.nodes[k]⟩ (hwk k hk) p.nodes[k].eqs (by
  have h1 := (hty _ (List.getElem_mem hk)).w
  have h2 := w_nod p.nodes[k]
  have h3 := w_lenM equT 7 p.nodes[k].eqs
  omega) (hty _ (List.getElem_mem hk)).eqs
 have hrest := fun k (hk : k < p.nodes.length) => rest11_sound ⟨p, nI k, varsL p.nodes[k]⟩ (hwk k hk) k hk (nI_val' (by omega)) (hty _ (List.getElem_mem hk)) (hvl _ (List.getElem_mem hk))
 unfold progC at *
 simp only at hsh heqs hrest
 refine Sound.of tabOk Tryz.func12 (by kernel_rfl) rfl rfl ?_
 repeat' (first | refine wkb ?_ | refine wv hsh ?_ | (apply TO.store tabOk; (iterate 6 exact rfl); exact Nat.le_of_ble_eq_true rfl; exact rfl; exact Nat.le_of_ble_eq_true rfl; exact rfl) | exact trivial | exact And.intro rfl rfl | refine And.intro (fun H env => ?_) ?_ | refine And.intro (fun env => ?_) ?_ | refine wk ?_ | exact wkc | intro hc | refine wk2 ?_ ?_ | fail)
 all_goals try (exfalso; omega)
 refine TR.loopN p.nodes.length (fun k => firstE (fun x => (nodG p x).2) (p.nodes.zipIdx.take k) = 0) (fun k => [(1, .cp [.sl 2 (p.enums.map enT), nodesT p.nodes] 0), (2, .ref 0 0), (6, .i k)]) (fun _ => [.cells [.i 0, .i 0], .cells [.i w1, .i w2]]) rfl (fun k hlt ha => ?_) (fun ha => ?_)
 ·have hx := at_nod hlt
  have hzi : p.nodes.zipIdx[k]'(by rw [hzn]; exact hlt) = (p.nodes[k], k) := by simp
  have g1 := tyNods_at p (by rw [hzn]; exact hlt) ha
  have g2 := firstE_next (f := fun x => (nodG p x).2) (by rw [hzn]; exact hlt) ha
  rw [hzi] at g1 g2
  have hv := hvars _ (List.getElem_mem hlt)
  have he := heqs k hlt
  have hr := hrest k hlt
  have hk63 : (k : Int) ≤ 9223372036854775807 := by omega
  rw [nI_val' hk63] at he hr
  have hng : nodG p (p.nodes[k], k) = if (firstI (eqnT ⟨p, nI k, varsL p.nodes[k]⟩) p.nodes[k].eqs).2 ≠ 0 then firstI (eqnT ⟨p, nI k, varsL p.nodes[k]⟩) p.nodes[k].eqs else (-1, restTy ⟨p, nI k, varsL p.nodes[k]⟩ p.nodes[k]) := by
   rw [firstI_snd]; rfl
  generalize firstI (eqnT ⟨p, nI k, varsL p.nodes[k]⟩) p.nodes[k].eqs = q at *
  generalize restTy ⟨p, nI k, varsL p.nodes[k]⟩ p.nodes[k] = r at *
  generalize nodG p (p.nodes[k], k) = g at *
  generalize p.nodes[k] = n at *
  obtain ⟨q1, q2⟩ := q
  simp only at he hng
  clear hvars heqs hrest hwk hty hvl hsh
  unfold nodC at hx hv
  repeat' (first | refine wkb ?_ | refine rg [.t (.ag [.sl 2 (p.enums.map enT), nodesT p.nodes]), .i k, .t (declsT (varsL n)), .cp [.sl 2 (p.enums.map enT), nodesT p.nodes] 1, .t (nodesT p.nodes), .i k, .cp [.s n.name, declsT n.ins, declsT n.outs, declsT n.locals, .sl 7 (n.eqs.map equT), .sl 1 (n.autos.map autoT), .sl 6 (n.assume.map exT), .sl 6 (n.ensure.map exT)] 0, .cp [.s n.name, declsT n.ins, declsT n.outs, declsT n.locals, .sl 7 (n.eqs.map equT), .sl 1 (n.autos.map autoT), .sl 6 (n.assume.map exT), .sl 6 (n.ensure.map exT)] 4, .t (.sl 7 (n.eqs.map equT)), .tup [.i q1, .i q2], .tup [.i q1, .i q2], .i q1, .i q2, .i q1, .i q2] ?_ ?_ | refine wv hv ?_ | refine wv he ?_ | refine wv hr ?_ | (apply TO.store tabOk; (iterate 6 exact rfl); exact Nat.le_of_ble_eq_true rfl; exact rfl; exact Nat.le_of_ble_eq_true rfl; exact rfl) | exact trivial | exact And.intro rfl rfl | refine And.intro (fun H env => ?_) ?_ | refine And.intro (fun env => ?_) ?_ | refine wk ?_ | exact wkc | intro hc | refine wk2 ?_ ?_ | fail)
  ·rw [if_pos hc] at hng
   subst hng
   rw [g1 hc] at hR
   rw [hR]; exact wkr
  ·rename_i c1
   rw [if_neg c1] at hng
   subst hng
   rw [g1 hc] at hR
   rw [hR]; exact wkr
  ·rename_i c1
   rw [if_neg c1] at hng
   subst hng
   exact LoopK.nextN hlt (g2 (Decidable.not_not.1 hc))
 ·rw [← hzn, List.take_length] at ha
  rw [tyNods_zero p ha] at hR
  clear hvars heqs hrest hwk hty hvl hsh
  repeat' (first | refine wkb ?_ | (apply TO.store tabOk; (iterate 6 exact rfl); exact Nat.le_of_ble_eq_true rfl; exact rfl; exact Nat.le_of_ble_eq_true rfl; exact rfl) | exact trivial | exact And.intro rfl rfl | refine And.intro (fun H env => ?_) ?_ | refine And.intro (fun env => ?_) ?_ | refine wk ?_ | exact wkc | intro hc | refine wk2 ?_ ?_ | fail)
  all_goals first
   | (exfalso; omega)
   | (rw [hR]; exact wkr)
end Go.Proofs.YtlocalghkiepmaaGreat
