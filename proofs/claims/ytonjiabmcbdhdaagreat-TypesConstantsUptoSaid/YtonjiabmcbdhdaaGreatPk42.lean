import Derived.Test.YtonjiabmcbdhdaaGreatPk23
import Derived.Test.YtonjiabmcbdhdaaGreatPk40
import Derived.Test.YtonjiabmcbdhdaaGreatPk41
set_option linter.unusedSimpArgs false
set_option linter.unusedVariables false
namespace Go.Proofs.YtonjiabmcbdhdaaGreat
open Go Go.TL
attribute [local irreducible] TR TO Then InBlock RetK Sound LoopK Kf GG ThenL
theorem ofR_sound11 (p : Prog) (hp : SmallP p) (node : I64) (e : Ex) (he : wEx e ≤ 1000000000) : Pure Tryz.prog 13 [.t (.ag (progC p)), .i node.1, .t (.ag (exC e))] (.tup [.t (intsT (ofT p node e).1), .i (ofT p node e).2]) := by
 have hml : (p.nodes.map nodT).length = p.nodes.length := List.length_map _
 have hb := hp.nodes
 have hcx := exprR_sound p.enums e he
 unfold ofT
 by_cases h2 : node.1 < 0 ∨ (p.nodes.length : Int) ≤ node.1
 ·rw [if_pos h2]
  clear hcx
  unfold progC exC
  refine Sound.of tabOk Tryz.func13 (by kernel_rfl) rfl rfl ?_
  repeat' (first | refine wkt ?_ | refine wk ?_ | exact wkc | intro hc | refine wk2 ?_ ?_ | fail | fail)
  all_goals first
   | exact wkr
   | (exfalso; omega)
 rw [if_neg h2]
 rw [exT_eq] at hcx
 by_cases hx : exprX p.enums e ≠ 0
 ·rw [if_pos hx]
  generalize exprX p.enums e = c at hx hcx ⊢
  unfold progC exC at *
  refine Sound.of tabOk Tryz.func13 (by kernel_rfl) rfl rfl ?_
  repeat' (first | refine wkt ?_ | refine wk ?_ | exact wkc | intro hc | refine wk2 ?_ ?_ | refine wv hcx ?_ | fail)
  all_goals first
   | exact wkr
   | (exfalso; omega)
 rw [if_neg hx]
 have hx0 : exprX p.enums e = 0 := Classical.byContradiction hx
 rw [hx0] at hcx
 obtain ⟨k, hk, hkn⟩ : ∃ k : Nat, k < p.nodes.length ∧ node.1 = (k : Int) := ⟨node.1.toNat, by omega, by omega⟩
 have hnt : node.1.toNat = k := by omega
 rw [hnt, List.getElem?_eq_getElem hk]
 have hat : (p.nodes.map nodT)[node.1.toNat]? = some (.ag (nodC p.nodes[k])) := by rw [hnt]; exact at_nod hk
 have hN := hp.each p.nodes[k] (List.getElem_mem hk)
 have hv := varsR_sound p.nodes[k] hN
 have hvl : (varsL p.nodes[k]).length ≤ 1000000000 := by have := hN.ins; have := hN.outs; have := hN.locals; simp [varsL]; omega
 have hr := resultsR_sound ⟨p, node, varsL p.nodes[k]⟩ ⟨hb, hp.each, hvl⟩ e he (arity_flat hx0) false
 rw [exT_eq] at hr
 dsimp only at hr ⊢
 generalize resT ⟨p, node, varsL p.nodes[k]⟩ false e = r at hr ⊢
 have h2a : 0 ≤ node.1 := by omega
 have h2b : node.1 < p.nodes.length := by omega
 clear hkn hnt h2 hx0 hx hN hp
 generalize varsL p.nodes[k] = L at hv hr hvl
 generalize p.nodes[k] = n at hv hat
 obtain ⟨node, hn1, hn2⟩ := node
 unfold progC exC nodC at *
 dsimp only [T.n] at *
 refine Sound.of tabOk Tryz.func13 (by kernel_rfl) rfl rfl ?_
 repeat' (first | refine wkt ?_ | refine wk2 ?_ ?_ | exact wkc | intro hc | refine wv hcx ?_ | (apply Go.TL.TO.want; exact rfl) | fail)
 refine TR.regionM (envF := ?envF) (HF := []) [(.t (.ag [.sl 2 (p.enums.map enT), nodesT p.nodes]), false), (.i node, false), (.cp [.sl 2 (p.enums.map enT), nodesT p.nodes] 1, false), (.t (nodesT p.nodes), false), (.i node, false), (.cp [.s n.name, declsT n.ins, declsT n.outs, declsT n.locals, .sl 7 (n.eqs.map equT), .sl 1 (n.autos.map autoT), .sl 6 (n.assume.map exT), .sl 6 (n.ensure.map exT)] 0, false), (.t (.ag [.s n.name, declsT n.ins, declsT n.outs, declsT n.locals, .sl 7 (n.eqs.map equT), .sl 1 (n.autos.map autoT), .sl 6 (n.assume.map exT), .sl 6 (n.ensure.map exT)]), false), (.t (declsT L), true), (.t (.ag [T.v (.int .i64 e.kind.val), T.v (.int .i64 e.op.val), T.v (.int .i64 e.t.val), T.v (.int .i64 e.v.val), .s e.name, .sl 6 (e.args.map exT)]), false), (.tup [.t (intsT r.1), .i r.2], true), (.t (intsT r.1), false), (.i r.2, false), (.t (intsT r.1), false), (.i r.2, false)] [[], [], []] hmix ?hB ?h0 ?hp ?hF ?hE ?hK
 case hB => (dsimp only [List.map]; decide +kernel)
 case h0 => exact rfl
 case hF => exact rfl
 case hE => exact rfl
 case hp => repeat' (first | refine wkt ?_ | refine wk ?_ | refine wk2 ?_ ?_ | exact wkc | intro hc | refine wv hv ?_ | refine wv hr ?_ | exact trivial | exact And.intro rfl rfl | refine And.intro (fun H env => ?_) ?_ | refine And.intro (fun env => ?_) ?_ | fail)
 case hK =>
  repeat' (first | refine wkt ?_ | refine wk ?_ | refine wk2 ?_ ?_ | exact wkc | intro hc | refine wv hv ?_ | refine wv hr ?_ | exact trivial | exact And.intro rfl rfl | refine And.intro (fun H env => ?_) ?_ | refine And.intro (fun env => ?_) ?_ | fail)
  exact wkr
theorem weigh_sound' : ∀ (m : Nat) (e : Ex), wEx e ≤ m → ∀ (q : Nat), 1 ≤ q → q ≤ 1000000 → Pure Tryz.prog 32 [.t (.ag (exC e)), .i q] (.i (min (wEx e) q : Nat)) := by
 intro m
 induction m with
 | zero => intro e he; have := wEx_pos e; omega
 | succ m ih0 =>
   intro e he q hq1 hq2
   have hw := wEx_eq e
   have ih : ∀ x ∈ e.args, ∀ (q : Nat), 1 ≤ q → q ≤ 1000000 → Pure Tryz.prog 32 [.t (.ag (exC x)), .i q] (.i (min (wEx x) q : Nat)) := fun x hx q h1 h2 => ih0 x (by have := wEx_arg hx; omega) q h1 h2
   clear ih0
   rw [hw]
   generalize hL : e.args = L at ih ⊢
   have hml : (L.map exT).length = L.length := List.length_map _
   unfold exC
   rw [hL]
   refine Sound.of tabOk Tryz.func32 (by kernel_rfl) rfl rfl ?_
   repeat' (first | refine wkt ?_ | refine wk ?_ | exact wkc | intro hc | refine wk2 ?_ ?_ | fail)
   refine TR.loopN L.length (fun k => k < 1 + ((L.take k).map wEx).sum) (fun k => [(1, .i q), (2, .cp [T.n e.kind, T.n e.op, T.n e.t, T.n e.v, .s e.name, .sl 6 (L.map exT)] 0), (5, .i (min (1 + ((L.take k).map wEx).sum) q : Nat)), (6, .i k)]) (fun _ => []) (by simp) (fun k hlt hk => ?_) (fun hk => ?_) ⟨rfl, rfl, by rw [show min (1 + ((L.take 0).map wEx).sum) q = 1 from by simp; omega]; rfl, rfl, trivial⟩
   ·have hx := at_exT hlt
    have htk : ((L.take (k + 1)).map wEx).sum = ((L.take k).map wEx).sum + wEx L[k] := by rw [take_at hlt, List.map_append, List.sum_append]; simp
    have hle : ((L.take k).map wEx).sum ≤ (L.map wEx).sum := by
     conv => rhs; rw [← List.take_append_drop k L]
     rw [List.map_append, List.sum_append]; omega
    have hwp := wEx_pos L[k]
    have hi := ih L[k] (List.getElem_mem hlt)
    generalize L[k] = x at hx htk hwp hi
    generalize hS : ((L.take k).map wEx).sum = S at *
    generalize hT : (L.map wEx).sum = W at *
    unfold exC at hx hi
    by_cases hc0 : 1 + S < q
    ·have hn : min (1 + S) q = 1 + S := by omega
     rw [hn]
     have hi2 := hi (q - (1 + S)) (by omega) (by omega)
     rw [show ((q - (1 + S) : Nat) : Int) = (q : Int) - ((1 + S : Nat) : Int) from by omega] at hi2
     have hr : ((1 + S : Nat) : Int) + ((min (wEx x) (q - (1 + S)) : Nat) : Int) = ((min (1 + (S + wEx x)) q : Nat) : Int) := by omega
     generalize min (wEx x) (q - (1 + S)) = z at hi2 hr
     have hz : z ≤ 1000000 := by omega
     repeat' (first | refine wkt ?_ | refine wk ?_ | exact wkc | intro hc | refine wk2 ?_ ?_ | refine wv hi2 ?_ | fail)
     exact LoopK.nextN hlt (by rw [htk]; omega) ⟨rfl, rfl, by rw [htk, ← hr]; rfl, rfl, trivial⟩
    ·have hn : min (1 + S) q = q := by omega
     rw [hn, show min (1 + W) q = q from by omega]
     repeat' (first | refine wkt ?_ | refine wk ?_ | exact wkc | intro hc | refine wk2 ?_ ?_ | fail | fail)
     all_goals first
      | (exfalso; omega)
      | (refine RetK.pure rfl (Le.of_eq ?_) rfl; refine congrArg (fun z => SV.t (T.v (Value.int IntKind.i64 z))) ?_; omega)
   ·rw [List.take_length]
    repeat' (first | refine wkt ?_ | refine wk ?_ | exact wkc | intro hc | refine wk2 ?_ ?_ | fail)
    all_goals first
     | (exfalso; omega)
     | (refine RetK.pure rfl (Le.of_eq ?_) rfl; refine congrArg (fun z => SV.t (T.v (Value.int IntKind.i64 z))) ?_; omega)
set_option maxRecDepth 20000 in
theorem light_sound (e : Ex) : Pure Tryz.prog 11 [.t (.ag (exC e))] (.b (decide (wEx e < 600))) := by
 have hw : Pure Tryz.prog 32 [.t (.ag (exC e)), .i 600] (.i (min (wEx e) 600 : Nat)) := weigh_sound' (wEx e) e (Nat.le_refl _) 600 (by decide) (by decide)
 generalize hg : wEx e = W at hw ⊢
 unfold exC at *
 by_cases h : W < 600
 ·rw [decide_eq_true h]
  rw [show min W 600 = W from by omega] at hw
  refine Sound.of tabOk Tryz.func11 (by kernel_rfl) rfl rfl ?_
  repeat' (first | refine wkt ?_ | refine wk ?_ | exact wkc | intro hc | refine wk2 ?_ ?_ | refine wv hw ?_ | fail)
  all_goals first
   | (exfalso; omega)
   | exact wkr
 ·rw [decide_eq_false h]
  rw [show min W 600 = 600 from by omega] at hw
  change Pure _ _ _ (.i 600) at hw
  refine Sound.of tabOk Tryz.func11 (by kernel_rfl) rfl rfl ?_
  repeat' (first | refine wkt ?_ | refine wk ?_ | exact wkc | intro hc | refine wk2 ?_ ?_ | refine wv hw ?_ | fail)
  all_goals first
   | (exfalso; omega)
   | exact wkr
theorem callT_len {w : Plc} (hp : ∀ n ∈ w.p.nodes, n.outs.length ≤ 100000000) (e : Ex) (l : List Int) (b : Bool) : (callT w e l b).1.length ≤ 100000000 := by
 unfold callT
 split
 ·simp
 ·split
  ·simp
  ·rename_i n hn
   have := hp n (List.mem_of_getElem? hn)
   split
   ·simp
   ·split
    ·simp
    ·split
     ·simp
     ·simpa using this
theorem kindT_len {w : Plc} (hp : ∀ n ∈ w.p.nodes, n.outs.length ≤ 100000000) (e : Ex) (l : List Int) (b : Bool) : (kindT w e l b).1.length ≤ 100000000 := by
 have := callT_len hp e l b
 unfold kindT
 repeat' split
 all_goals first | exact this | simp
theorem resT_len {w : Plc} (hp : ∀ n ∈ w.p.nodes, n.outs.length ≤ 100000000) (e : Ex) (b : Bool) : (resT w b e).1.length ≤ 100000000 := by
 rw [resT_eq]
 split
 ·simp
 ·exact kindT_len hp _ _ _
theorem ofT_len {p : Prog} (hp : SmallP p) (node : I64) (e : Ex) : (ofT p node e).1.length ≤ 100000000 := by
 unfold ofT
 split
 ·simp
 ·split
  ·simp
  ·split
   ·exact resT_len (fun n h => (hp.each n h).outs) _ _
   ·simp
theorem typesOf_law (p : Prog) (hp : SmallP p) (node : I64) (e : Ex) : Pure Tryz.prog 4 [.t (.ag (progC p)), .i node.1, .t (.ag (exC e))] (.b true) := by
 have h0 := awake_sound
 have hl := light_sound e
 by_cases hw : wEx e < 600
 ·rw [decide_eq_true hw] at hl
  have h1 := of_sound11 p hp node e (by omega)
  have h2 := ofR_sound11 p hp node e (by omega)
  have h3 := same_sound (ofT p node e).1 (ofT p node e).1 (by have := ofT_len hp node e; omega)
  rw [decide_eq_true rfl] at h3
  generalize ofT p node e = r at *
  obtain ⟨r1, r2⟩ := r
  unfold progC exC at *
  dsimp only at h1 h2 h3
  refine Sound.of tabOk Tryz.func4 (by kernel_rfl) rfl rfl ?_
  repeat' (first | refine wkt ?_ | refine wka ?_ | refine wv h0 ?_ | refine wv hl ?_ | refine wv h1 ?_ | refine wv h2 ?_ | refine wv h3 ?_ | refine wk ?_ | exact wkc | intro hc | refine wk2 ?_ ?_ | fail)
  exact wkr
 ·rw [decide_eq_false hw] at hl
  unfold progC exC at *
  refine Sound.of tabOk Tryz.func4 (by kernel_rfl) rfl rfl ?_
  repeat' (first | refine wkt ?_ | refine wka ?_ | refine wv h0 ?_ | refine wv hl ?_ | refine wk ?_ | exact wkc | intro hc | refine wk2 ?_ ?_ | fail)
  all_goals exact wkr
theorem firstE_of_all {α : Type} {f : α → Int} : ∀ {l : List α}, (∀ x ∈ l, f x = 0) → firstE f l = 0
 | [], _ => rfl
 | x :: l, h => by rw [firstE, if_pos (h x (by simp)), firstE_of_all fun y hy => h y (by simp [hy])]
theorem flat_sub {e x : Ex} (h : x ∈ e.args) : ∀ y ∈ flat x, y ∈ flat e := fun y hy => by
 rw [flat_eq e]
 refine List.mem_cons_of_mem _ ?_
 unfold flats
 exact List.mem_flatten.2 ⟨flat x, List.mem_map_of_mem h, hy⟩
theorem le_foldl_max : ∀ (l : List Int) (a : Int), a ≤ l.foldl max a ∧ ∀ x ∈ l, x ≤ l.foldl max a
 | [], a => ⟨Int.le_refl _, by simp⟩
 | y :: l, a => by
   have ih := le_foldl_max l (max a y)
   rw [List.foldl_cons]
   refine ⟨by have := ih.1; omega, fun x hx => ?_⟩
   rcases List.mem_cons.1 hx with rfl | hx
   ·have := ih.1; omega
   ·exact ih.2 x hx
theorem depth_arg {e x : Ex} (h : x ∈ e.args) : exDepth x ≤ exDepth e := by
 rw [exDepth_eq e]
 have := (le_foldl_max (e.args.map exDepth) 0).2 _ (List.mem_map_of_mem h)
 omega
theorem exprX_arg {es : List En} {e x : Ex} (h : exprX es e = 0) (hx : x ∈ e.args) : exprX es x = 0 := by
 unfold exprX at h ⊢
 have hc : checkX e = 0 := Classical.byContradiction fun hh => by rw [if_neg hh] at h; exact hh h
 rw [if_pos hc] at h
 have hi := firstE_zero h
 unfold checkX at hc ⊢
 have hs : ¬ (400 < wEx e ∨ 32 < exDepth e) := fun hh => by rw [if_pos hh] at hc; cases hc
 rw [if_neg hs] at hc
 have ho := firstE_zero hc
 have hw := wEx_arg hx
 have hd := depth_arg hx
 have hs2 : ¬ (400 < wEx x ∨ 32 < exDepth x) := by omega
 rw [if_neg hs2, firstE_of_all fun y hy => ho y (flat_sub hx y hy), if_pos rfl, firstE_of_all fun y hy => hi y (flat_sub hx y hy)]
theorem heads_all : ∀ (rs : List (List Int × Int)), (heads rs).2 = 0 → ∀ r ∈ rs, r.2 = 0
 | [], _, r, hr => by simp at hr
 | x :: rs, h, r, hr => by
   unfold heads at h
   have h1 : x.2 = 0 := Classical.byContradiction fun hh => by rw [if_pos hh] at h; exact hh h
   rw [if_neg (by simp [h1])] at h
   have h2 : (heads rs).2 = 0 := Classical.byContradiction fun hh => by rw [if_pos hh] at h; exact hh h
   rcases List.mem_cons.1 hr with rfl | hr
   ·exact h1
   ·exact heads_all rs h2 r hr
theorem callT_inner {w : Plc} {e : Ex} {l : List Int} (h : (callT w e l true).2 = 0) : callT w e l false = callT w e l true := by
 unfold callT at h ⊢
 split at h
 ·simp at h
 ·rename_i h1
  rw [if_neg h1, if_neg h1]
  split at h
  ·simp at h
  ·rename_i n hn
   split at h
   ·simp at h
   ·rename_i h2
    rw [if_neg h2, if_neg (by simp at h2 ⊢; exact h2.1)]
theorem kindT_inner {w : Plc} {e : Ex} {l : List Int} (h : (kindT w e l true).2 = 0) : kindT w e l false = kindT w e l true := by
 unfold kindT at h ⊢
 repeat' split
 all_goals first | rfl | skip
 all_goals (refine callT_inner ?_; simp_all)
theorem resT_inner {w : Plc} {e : Ex} (h : (resT w true e).2 = 0) : resT w false e = resT w true e := by
 rw [resT_eq] at h ⊢
 rw [resT_eq w true e]
 split at h
 ·rename_i h1; exact absurd h h1
 ·rename_i h1
  rw [if_neg h1, if_neg h1]
  exact kindT_inner h
theorem ofT_arg {p : Prog} {node : I64} {e x : Ex} (h : (ofT p node e).2 = 0) (hx : x ∈ e.args) : (ofT p node x).2 = 0 ∧ (ofT p node x).1.length = 1 := by
 unfold ofT at h ⊢
 have h1 : ¬ (node.1 < 0 ∨ (p.nodes.length : Int) ≤ node.1) := fun hh => by rw [if_pos hh] at h; cases h
 rw [if_neg h1] at h ⊢
 have h2 : exprX p.enums e = 0 := Classical.byContradiction fun hh => by rw [if_pos hh] at h; exact hh h
 rw [if_neg (by simp [h2])] at h
 rw [if_neg (by simp [exprX_arg h2 hx])]
 split at h
 ·rename_i n hn
  have h3 : (heads (e.args.map (resT ⟨p, node, varsL n⟩ true))).2 = 0 := by
   rw [resT_eq] at h
   exact Classical.byContradiction fun hh => by rw [if_pos hh] at h; exact hh h
  have h4 := heads_all _ h3 _ (List.mem_map_of_mem hx)
  rw [resT_inner h4]
  exact ⟨h4, resT_one h4⟩
 ·cases h
theorem typesParts_law (p : Prog) (hp : SmallP p) (node : I64) (e : Ex) : Pure Tryz.prog 6 [.t (.ag (progC p)), .i node.1, .t (.ag (exC e))] (.b true) := by
 have h0 := awake_sound
 have hl := light_sound e
 by_cases hw : wEx e < 600
 ·rw [decide_eq_true hw] at hl
  have h1 := of_sound11 p hp node e (by omega)
  have harg := fun (x : Ex) (hx : x ∈ e.args) => And.intro (of_sound11 p hp node x (by have := wEx_arg hx; omega)) (fun h => ofT_arg (p := p) (node := node) h hx)
  have hal : e.args.length ≤ 1000000000 := by
   have : e.args.length ≤ wEx e := by
    have : ∀ l : List Ex, l.length ≤ (l.map wEx).sum := fun l => by
     induction l with
     | nil => simp
     | cons y l ih => have := wEx_pos y; simp; omega
    rw [wEx_eq]; have := this e.args; omega
   omega
  have hml : (e.args.map exT).length = e.args.length := List.length_map _
  generalize ofT p node e = r at *
  obtain ⟨r1, r2⟩ := r
  unfold progC exC at *
  dsimp only at h1 harg
  refine Sound.of tabOk Tryz.func6 (by kernel_rfl) rfl rfl ?_
  repeat' (first | refine wkt ?_ | refine wka ?_ | refine wv h0 ?_ | refine wv hl ?_ | refine wv h1 ?_ | refine wk ?_ | exact wkc | intro hc | refine wk2 ?_ ?_ | fail)
  ·exact wkr
  have hr0 : r2 = 0 := Decidable.not_not.1 hc
  clear hl h1 hc
  refine TR.loopN e.args.length (fun _ => True) (fun k => [(1, .i node.1), (3, .cp [.sl 2 (p.enums.map enT), nodesT p.nodes] 0), (5, .cp [T.n e.kind, T.n e.op, T.n e.t, T.n e.v, .s e.name, .sl 6 (e.args.map exT)] 0), (9, .i k)]) (fun _ => []) trivial (fun k hlt _ => ?_) (fun _ => ?_)
  ·have hx := at_map exT hlt
   obtain ⟨ha, hb⟩ := harg _ (List.getElem_mem hlt)
   have hb := hb hr0
   generalize e.args[k] = x at *
   generalize ofT p node x = rx at *
   obtain ⟨x1, x2⟩ := rx
   simp only at hb ha
   obtain ⟨rfl, hx1⟩ := hb
   obtain ⟨v, rfl⟩ : ∃ v, x1 = [v] := List.length_eq_one_iff.1 hx1
   rw [exT_eq] at hx
   unfold exC at hx
   clear harg h0 hx1
   repeat' (first | refine wkt ?_ | refine wka ?_ | refine Go.TL.TR.regionM (envF := _) (HF := []) [(.t (.ag [.sl 2 (p.enums.map enT), nodesT p.nodes]), false), (.i node.1, false), (.cp [T.n e.kind, T.n e.op, T.n e.t, T.n e.v, .s e.name, .sl 6 (e.args.map exT)] 5, false), (.t (.sl 6 (e.args.map exT)), false), (.i k, false), (.cp [T.n x.kind, T.n x.op, T.n x.t, T.n x.v, .s x.name, .sl 6 (x.args.map exT)] 0, false), (.t (.ag [T.n x.kind, T.n x.op, T.n x.t, T.n x.v, .s x.name, .sl 6 (x.args.map exT)]), false), (.tup [.t (intsT [v]), .i 0], false), (.tup [.t (intsT [v]), .i 0], false), (.t (intsT [v]), false), (.i 0, false), (.t (intsT [v]), false), (.i 0, false)] [[]] hmix (by dsimp only [List.map]; decide +kernel) rfl ?_ rfl rfl ?_ | refine wv ha ?_ | exact trivial | exact And.intro rfl rfl | refine And.intro (fun H env => ?_) ?_ | refine And.intro (fun env => ?_) ?_ | refine wk ?_ | exact wkc | intro hc | refine wk2 ?_ ?_ | fail)
   all_goals first
    | exact LoopK.nextN hlt trivial
    | (exfalso; simp at hc; done)
    | (exfalso; exact hc rfl)
  ·repeat' (first | refine wkt ?_ | refine wka ?_ | refine wv h0 ?_ | refine wk ?_ | exact wkc | intro hc | refine wk2 ?_ ?_ | fail)
   all_goals exact wkr
 ·rw [decide_eq_false hw] at hl
  unfold progC exC at *
  refine Sound.of tabOk Tryz.func6 (by kernel_rfl) rfl rfl ?_
  repeat' (first | refine wkt ?_ | refine wka ?_ | refine wv h0 ?_ | refine wv hl ?_ | refine wk ?_ | exact wkc | intro hc | refine wk2 ?_ ?_ | fail)
  all_goals exact wkr
theorem declared_sound (n : Nod) (hN : SmallN n) (hck : ∀ d ∈ varsL n, d.clock.length ≤ 100000000) (nm : Str) : Pure Tryz.prog 15 [.t (.ag (nodC n)), .s nm] (.i (lookT (varsL n) nm).1) := by
 have hv := vars_sound n hN hck
 have hl : (varsL n).length ≤ 1000000000 := by have := hN.ins; have := hN.outs; have := hN.locals; simp [varsL]; omega
 generalize varsL n = env at *
 have hml : (env.map declT).length = env.length := List.length_map _
 unfold nodC at *
 refine Sound.of tabOk Tryz.func15 (by kernel_rfl) rfl rfl ?_
 repeat' (first | refine wkt ?_ | refine wk ?_ | exact wkc | intro hc | refine wk2 ?_ ?_ | refine wv hv ?_ | fail)
 refine TR.loopN env.length (fun k => lookT env nm = lookT (env.drop k) nm) (fun k => [(1, .s nm), (5, .t (declsT env)), (6, .i k)]) (fun _ => []) rfl (fun k hlt ha => ?_) (fun ha => ?_)
 ·have hx := at_map declT hlt
  rw [List.drop_eq_getElem_cons hlt, lookT] at ha
  generalize env[k] = d at hx ha
  have hd : declT d = .ag [.s d.name, T.n d.ty, .sl 3 (d.clock.map onT)] := rfl
  rw [hd] at hx
  rw [ha]
  repeat' (first | refine wkt ?_ | refine wk ?_ | exact wkc | intro hc | refine wk2 ?_ ?_ | fail)
  ·rw [if_pos hc]; exact wkr
  ·refine LoopK.nextN hlt ?_
   rw [if_neg hc]
 ·rw [ha, List.drop_of_length_le (Nat.le_refl _)]
  repeat' (first | refine wkt ?_ | refine wk ?_ | exact wkc | intro hc | refine wk2 ?_ ?_ | fail)
  exact wkr
theorem tyNods_all (p : Prog) : ∀ {l : List (Nod × Nat)}, (tyNods p l).2 = 0 → ∀ x ∈ l, (nodG p x).2 = 0
 | [], _, x, hx => by simp at hx
 | y :: l, h, x, hx => by
   rw [tyNods] at h
   have h1 : (nodG p y).2 = 0 := Classical.byContradiction fun hh => by rw [if_neg hh] at h; exact hh h
   rw [if_pos h1] at h
   rcases List.mem_cons.1 hx with rfl | hx
   ·exact h1
   ·exact tyNods_all p h x hx
theorem rights {p : Prog} (h : (typesX p).2 = 0) {k : Nat} (hk : k < p.nodes.length) (hk63 : (k : Int) ≤ 9223372036854775807) {u : Equ} (hu : u ∈ p.nodes[k].eqs) :
  (ofT p (nI k) u.right).2 = 0 ∧ u.left.map (fun s => (lookT (varsL p.nodes[k]) s).1) = (ofT p (nI k) u.right).1 := by
 have hs : (scopeX p).2 = 0 := Classical.byContradiction fun hh => by
  unfold typesX at h
  rw [if_pos hh] at h; exact hh h
 unfold typesX at h
 rw [if_neg (by simp [hs])] at h
 have hmem : (p.nodes[k], k) ∈ p.nodes.zipIdx := by
  have : p.nodes.zipIdx[k]? = some (p.nodes[k], k) := by rw [List.getElem?_zipIdx]; simp [List.getElem?_eq_getElem hk]
  exact List.mem_of_getElem? this
 have hg := tyNods_all p h _ hmem
 unfold nodG nodeTy at hg
 simp only at hg
 have he : firstE (eqnT ⟨p, nI k, varsL p.nodes[k]⟩) p.nodes[k].eqs = 0 := Classical.byContradiction fun hh => by
  rw [if_pos hh, firstI_snd] at hg; exact hh hg
 have h1 := firstE_zero he u hu
 have hx : exprX p.enums u.right = 0 := by
  have h2 := shape_nodes (scope_shape hs) _ (List.getElem_mem hk)
  unfold nodeX at h2
  have h3 : headE p.enums p.nodes[k] = 0 := Classical.byContradiction fun hh => by rw [if_pos hh] at h2; exact hh h2
  rw [if_neg (by simp [h3])] at h2
  have h4 : firstE (equE p.enums) p.nodes[k].eqs = 0 := Classical.byContradiction fun hh => by rw [if_pos hh, firstI_snd] at h2; exact hh h2
  exact equE_ex (firstE_zero h4 u hu)
 have hof : ofT p (nI k) u.right = resT ⟨p, nI k, varsL p.nodes[k]⟩ false u.right := by
  have e1 : (nI k).1 = (k : Int) := by rw [nI_of hk63]
  unfold ofT
  rw [e1, if_neg (by omega), if_neg (by simp [hx]), Int.toNat_natCast, List.getElem?_eq_getElem hk]
 rw [hof]
 unfold eqnT at h1
 have h5 : (resT ⟨p, nI k, varsL p.nodes[k]⟩ false u.right).2 = 0 := Classical.byContradiction fun hh => by rw [if_pos hh] at h1; exact hh h1
 rw [if_neg (by simp [h5])] at h1
 refine ⟨h5, ?_⟩
 split at h1
 ·cases h1
 ·split at h1
  ·assumption
  ·cases h1
end Go.Proofs.YtonjiabmcbdhdaaGreat
