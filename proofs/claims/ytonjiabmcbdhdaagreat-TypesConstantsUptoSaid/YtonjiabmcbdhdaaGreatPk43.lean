import Derived.Test.YtonjiabmcbdhdaaGreatPk42
set_option linter.unusedSimpArgs false
set_option linter.unusedVariables false
namespace Go.Proofs.YtonjiabmcbdhdaaGreat
open Go Go.TL
attribute [local irreducible] TR TO Then InBlock RetK Sound LoopK Kf GG ThenL
theorem smallP_of {p : Prog} (hw : (T.ag (progC p)).w ≤ 100000000) : SmallP p ∧ (∀ u ∈ p.nodes, (nodT u).w ≤ 100000000) ∧ p.nodes.length ≤ 100000000 := by
 have l1 : (T.sl 2 (p.enums.map enT)).w + (nodesT p.nodes).w ≤ (T.ag (progC p)).w := by rw [w_ag]; simp only [progC, List.map_cons, List.map_nil, List.sum_cons, List.sum_nil]; omega
 have hnT : (nodesT p.nodes).w = (T.sl 8 (p.nodes.map nodT)).w := rfl
 have b2 := w_lenM nodT 8 p.nodes
 have hln : ∀ u ∈ p.nodes, (nodT u).w ≤ 100000000 := fun u hu => by
  have h2 := w_inM (f := nodT) (sz := 8) hu
  omega
 exact ⟨⟨by omega, fun u hu => smallN_of (hln u hu), fun u hu => clocks_of (hln u hu)⟩, hln, by omega⟩
set_option maxHeartbeats 2000000 in
theorem typesRights_law (p : Prog) (hw : (T.ag (progC p)).w ≤ 100000000) : Pure Tryz.prog 5 [.t (.ag (progC p))] (.b true) := by
 have h0 := awake_sound
 have c1 := typesX_sound p hw
 obtain ⟨hP, hln, hpl⟩ := smallP_of hw
 by_cases hz : (typesX p).2 = 0
 ·have hR := @rights p hz
  generalize typesX p = z at *
  obtain ⟨⟨z1, z2⟩, z3⟩ := z
  simp only at hz c1
  subst hz
  have m2 : (p.nodes.map nodT).length = p.nodes.length := List.length_map _
  have hof := fun (nd : I64) (e : Ex) (he : wEx e ≤ 1000000000) => of_sound11 p hP nd e he
  unfold progC at *
  refine Sound.of tabOk Tryz.func5 (by kernel_rfl) rfl rfl ?_
  repeat' (first | refine wkt ?_ | refine wka ?_ | refine wv c1 ?_ | refine wk ?_ | exact wkc | intro hc | refine wk2 ?_ ?_ | fail)
  refine TR.loopN p.nodes.length (fun _ => True) (fun k => [(1, .cp [.sl 2 (p.enums.map enT), nodesT p.nodes] 0), (5, .i k)]) (fun _ => []) trivial (fun k hlt _ => ?_) (fun _ => ?_)
  ·have hx := at_nod hlt
   have hk63 : (k : Int) ≤ 9223372036854775807 := by omega
   have hR := fun u => @hR k hlt hk63 u
   have hnw := hln _ (List.getElem_mem hlt)
   have hde := fun s => declared_sound p.nodes[k] (smallN_of hnw) (clocks_of hnw) s
   generalize p.nodes[k] = n at *
   have hwn := w_nod n
   have hel : n.eqs.length ≤ 1000000000 := by have := w_lenM equT 7 n.eqs; omega
   have hew : ∀ u ∈ n.eqs, wEx u.right ≤ 1000000000 ∧ u.left.length ≤ 1000000000 := fun u hu => by
    have h1 := w_inM (f := equT) (sz := 7) hu
    have h2 := wEx_equ (q := u)
    have h3 := left_equ (q := u)
    omega
   have hme : (n.eqs.map equT).length = n.eqs.length := List.length_map _
   unfold nodC at hx hde
   clear hnw hwn hln hP c1 h0
   repeat' (first | refine wkt ?_ | refine wka ?_ | refine wk ?_ | exact wkc | intro hc | refine wk2 ?_ ?_ | fail)
   refine TR.loopN n.eqs.length (fun _ => True) (fun j => [(1, .cp [.sl 2 (p.enums.map enT), nodesT p.nodes] 0), (5, .i k), (6, .cp [.s n.name, declsT n.ins, declsT n.outs, declsT n.locals, .sl 7 (n.eqs.map equT), .sl 1 (n.autos.map autoT), .sl 6 (n.assume.map exT), .sl 6 (n.ensure.map exT)] 0), (7, .i j)]) (fun _ => []) trivial (fun j hlj _ => ?_) (fun _ => ?_)
   ·have hxe := at_equ hlj
    obtain ⟨r0, r1⟩ := hR _ (List.getElem_mem hlj)
    obtain ⟨we, wl⟩ := hew _ (List.getElem_mem hlj)
    generalize n.eqs[j] = u at *
    have ho := hof (nI k) u.right we
    rw [nI_of hk63] at ho r0 r1
    generalize ofT p ⟨k, ⟨by omega, hk63⟩⟩ u.right = r at *
    obtain ⟨l, f⟩ := r
    simp only at r0 r1 ho
    subst r0
    have hll : l.length = u.left.length := by rw [← r1, List.length_map]
    have hml : (l.map T.i).length = l.length := List.length_map _
    have hmu : (u.left.map T.s).length = u.left.length := List.length_map _
    unfold exC at ho
    unfold equC at hxe
    clear hR hew hof
    repeat' (first | refine wkt ?_ | refine wka ?_ | refine Go.TL.TR.regionM (envF := _) (HF := []) [(.t (.ag [.sl 2 (p.enums.map enT), nodesT p.nodes]), false), (.i k, false), (.cp [.s n.name, declsT n.ins, declsT n.outs, declsT n.locals, .sl 7 (n.eqs.map equT), .sl 1 (n.autos.map autoT), .sl 6 (n.assume.map exT), .sl 6 (n.ensure.map exT)] 4, false), (.t (.sl 7 (n.eqs.map equT)), false), (.i j, false), (.cp [.sl 1 (u.left.map T.s), T.n u.right.kind, T.n u.right.op, T.n u.right.t, T.n u.right.v, .s u.right.name, .sl 6 (u.right.args.map exT)] 0, false), (.cp [.sl 1 (u.left.map T.s), T.n u.right.kind, T.n u.right.op, T.n u.right.t, T.n u.right.v, .s u.right.name, .sl 6 (u.right.args.map exT)] 1, false), (.t (.ag [T.n u.right.kind, T.n u.right.op, T.n u.right.t, T.n u.right.v, .s u.right.name, .sl 6 (u.right.args.map exT)]), false), (.tup [.t (intsT l), .i 0], false), (.tup [.t (intsT l), .i 0], false), (.t (intsT l), false), (.i 0, false), (.t (intsT l), false), (.i 0, false)] [[]] hmix (by dsimp only [List.map]; decide +kernel) rfl ?_ rfl rfl ?_ | refine wv ho ?_ | exact trivial | exact And.intro rfl rfl | refine And.intro (fun H env => ?_) ?_ | refine And.intro (fun env => ?_) ?_ | refine wk ?_ | exact wkc | intro hc | refine wk2 ?_ ?_ | fail)
    all_goals first
     | (exfalso; omega)
     | skip
    refine TR.loopN l.length (fun _ => True) (fun i => [(1, .cp [.sl 2 (p.enums.map enT), nodesT p.nodes] 0), (5, .i k), (6, .cp [.s n.name, declsT n.ins, declsT n.outs, declsT n.locals, .sl 7 (n.eqs.map equT), .sl 1 (n.autos.map autoT), .sl 6 (n.assume.map exT), .sl 6 (n.ensure.map exT)] 0), (7, .i j), (8, .t (intsT l)), (10, .i i)]) (fun _ => []) trivial (fun i hli _ => ?_) (fun _ => ?_)
    ·have hxs : (u.left.map T.s)[i]? = some (T.s (u.left[i]'(by omega))) := at_map T.s (by omega)
     have hxl : (l.map T.i)[i]? = some (T.i l[i]) := at_ints hli
     have hd := hde (u.left[i]'(by omega))
     have hv : (lookT (varsL n) (u.left[i]'(by omega))).1 = l[i] := by
      have := congrArg (fun z => z[i]?) r1
      simp only [List.getElem?_map, List.getElem?_eq_getElem (show i < u.left.length by omega), List.getElem?_eq_getElem hli, Option.map_some] at this
      exact Option.some.inj this
     rw [hv] at hd
     generalize l[i] = y at *
     generalize u.left[i]'(by omega) = s at *
     clear hde r1 ho hv
     repeat' (first | refine wkt ?_ | refine wka ?_ | refine Go.TL.TR.regionM (envF := _) (HF := []) [(.t (.ag [.s n.name, declsT n.ins, declsT n.outs, declsT n.locals, .sl 7 (n.eqs.map equT), .sl 1 (n.autos.map autoT), .sl 6 (n.assume.map exT), .sl 6 (n.ensure.map exT)]), false), (.cp [.s n.name, declsT n.ins, declsT n.outs, declsT n.locals, .sl 7 (n.eqs.map equT), .sl 1 (n.autos.map autoT), .sl 6 (n.assume.map exT), .sl 6 (n.ensure.map exT)] 4, false), (.t (.sl 7 (n.eqs.map equT)), false), (.i j, false), (.cp [.sl 1 (u.left.map T.s), T.n u.right.kind, T.n u.right.op, T.n u.right.t, T.n u.right.v, .s u.right.name, .sl 6 (u.right.args.map exT)] 0, false), (.cp [.sl 1 (u.left.map T.s), T.n u.right.kind, T.n u.right.op, T.n u.right.t, T.n u.right.v, .s u.right.name, .sl 6 (u.right.args.map exT)] 0, false), (.t (.sl 1 (u.left.map T.s)), false), (.i i, false), (.cp [T.s s] 0, false), (.t (T.s s), false), (.i y, false), (.t (intsT l), false), (.i i, false), (.cp [T.i y] 0, false), (.t (T.i y), false), (.b false, false)] [[]] hmix (by dsimp only [List.map]; decide +kernel) rfl ?_ rfl rfl ?_ | refine wv hd ?_ | exact trivial | exact And.intro rfl rfl | refine And.intro (fun H env => ?_) ?_ | refine And.intro (fun env => ?_) ?_ | exact absurd rfl hc | refine wk ?_ | exact wkc | intro hc | refine wk2 ?_ ?_ | fail)
     all_goals exact LoopK.nextN hli trivial
    ·repeat' (first | refine wkt ?_ | refine wka ?_ | refine wk ?_ | exact wkc | intro hc | refine wk2 ?_ ?_ | fail)
     all_goals exact LoopK.nextN hlj trivial
   ·repeat' (first | refine wkt ?_ | refine wka ?_ | refine wk ?_ | exact wkc | intro hc | refine wk2 ?_ ?_ | fail)
    all_goals exact LoopK.nextN hlt trivial
  ·have h0 := awake_sound
   repeat' (first | refine wkt ?_ | refine wka ?_ | refine wv h0 ?_ | refine wk ?_ | exact wkc | intro hc | refine wk2 ?_ ?_ | fail)
   all_goals exact wkr
 ·generalize typesX p = z at *
  obtain ⟨⟨z1, z2⟩, z3⟩ := z
  simp only at hz c1
  unfold progC at *
  refine Sound.of tabOk Tryz.func5 (by kernel_rfl) rfl rfl ?_
  repeat' (first | refine wkt ?_ | refine wka ?_ | refine wv c1 ?_ | refine wv h0 ?_ | refine wk ?_ | exact wkc | intro hc | refine wk2 ?_ ?_ | fail)
  all_goals exact wkr
def Ex.withArgs : Ex → List Ex → Ex | .mk k o t v n _, l => .mk k o t v n l
theorem Ex.withArgs_self (e : Ex) : e.withArgs e.args = e := by cases e; rfl
def putL (F : Int → Ex → Ex × Int) : Int → List Ex → List Ex × Int
 | k, [] => ([], k)
 | k, a :: l => ((if 0 ≤ k then F k a else (a, k)).1 :: (putL F (if 0 ≤ k then F k a else (a, k)).2 l).1, (putL F (if 0 ≤ k then F k a else (a, k)).2 l).2)
def putE (x : Ex) : Nat → Int → Ex → Ex × Int
 | 0, k, e => (e, k)
 | m + 1, k, e => if k = 0 then (x, -1) else (e.withArgs (putL (putE x m) (k - 1) e.args).1, (putL (putE x m) (k - 1) e.args).2)
inductive Repl (x y : Ex) : Ex → Ex → Prop where
 | here : Repl x y y x
 | arg (e : Ex) (pre post : List Ex) (a a' : Ex) : e.args = pre ++ a :: post → Repl x y a a' → Repl x y e (e.withArgs (pre ++ a' :: post))
theorem flats_cons (a : Ex) (l : List Ex) : flats (a :: l) = flat a ++ flats l := by simp [flats]
theorem putL_neg (F : Int → Ex → Ex × Int) : ∀ (l : List Ex) (k : Int), k < 0 → putL F k l = (l, k)
 | [], _, _ => rfl
 | a :: l, k, h => by rw [putL, if_neg (by omega), putL_neg F l k h]
theorem putL_spec (x : Ex) (F : Int → Ex → Ex × Int) : ∀ (l : List Ex), (∀ a ∈ l, ∀ k : Int, 0 ≤ k → ((flat a).length ≤ k → F k a = (a, k - (flat a).length)) ∧ (∀ y, (flat a)[k.toNat]? = some y → (F k a).2 = -1 ∧ Repl x y a (F k a).1)) →
  ∀ k : Int, 0 ≤ k → ((flats l).length ≤ k → putL F k l = (l, k - (flats l).length)) ∧ (∀ y, (flats l)[k.toNat]? = some y → (putL F k l).2 = -1 ∧ ∃ pre a a' post, l = pre ++ a :: post ∧ (putL F k l).1 = pre ++ a' :: post ∧ Repl x y a a')
 | [], _, k, hk => by
   constructor
   ·intro _; simp [putL, flats]
   ·intro y hy; simp [flats] at hy
 | a :: l, h, k, hk => by
   obtain ⟨h1, h2⟩ := h a (by simp) k hk
   have ih := putL_spec x F l (fun b hb => h b (by simp [hb]))
   rw [flats_cons, putL, if_pos hk]
   constructor
   ·intro hl
    rw [List.length_append] at hl
    have e1 := h1 (by omega)
    have e2 := (ih (k - (flat a).length) (by omega)).1 (by omega)
    rw [e1]; dsimp only
    rw [e2, List.length_append]
    refine Prod.ext rfl ?_
    show k - (flat a).length - (flats l).length = _
    omega
   ·intro y hy
    by_cases hlt : k.toNat < (flat a).length
    ·rw [List.getElem?_append_left hlt] at hy
     obtain ⟨e1, e2⟩ := h2 y hy
     rw [e1, putL_neg F l (-1) (by omega)]
     exact ⟨rfl, [], a, (F k a).1, l, rfl, rfl, e2⟩
    ·rw [List.getElem?_append_right (by omega)] at hy
     have e1 := h1 (by omega)
     obtain ⟨g1, pre, b, b', post, g2, g3, g4⟩ := (ih (k - (flat a).length) (by omega)).2 y (by rw [show (k - ((flat a).length : Int)).toNat = k.toNat - (flat a).length from by omega]; exact hy)
     rw [e1]
     exact ⟨g1, a :: pre, b, b', post, by rw [g2]; rfl, by rw [g3]; rfl, g4⟩
theorem putE_spec (x : Ex) : ∀ (m : Nat) (e : Ex), wEx e ≤ m → ∀ k : Int, 0 ≤ k → ((flat e).length ≤ k → putE x m k e = (e, k - (flat e).length)) ∧ (∀ y, (flat e)[k.toNat]? = some y → (putE x m k e).2 = -1 ∧ Repl x y e (putE x m k e).1)
 | 0, e, h => by have := wEx_pos e; omega
 | m + 1, e, h => by
   intro k hk
   have ih := putL_spec x (putE x m) e.args (fun a ha => putE_spec x m a (by have := wEx_arg ha; omega))
   rw [flat_eq, putE]
   by_cases h0 : k = 0
   ·subst h0
    rw [if_pos rfl]
    constructor
    ·intro hl; simp at hl; omega
    ·intro y hy
     simp at hy; subst hy
     exact ⟨rfl, .here⟩
   ·rw [if_neg h0]
    obtain ⟨i1, i2⟩ := ih (k - 1) (by omega)
    constructor
    ·intro hl
     rw [List.length_cons] at hl
     rw [i1 (by omega), List.length_cons]
     refine Prod.ext (Ex.withArgs_self e) ?_
     show k - 1 - (flats e.args).length = _
     omega
    ·intro y hy
     rw [show k.toNat = (k - 1).toNat + 1 from by omega, List.getElem?_cons_succ] at hy
     obtain ⟨g1, pre, a, a', post, g2, g3, g4⟩ := i2 y hy
     rw [g3]
     exact ⟨g1, .arg e pre post a a' g2 g4⟩
theorem flat_mem {e z : Ex} : z ∈ flat e ↔ z = e ∨ ∃ a ∈ e.args, z ∈ flat a := by
 rw [flat_eq, List.mem_cons]
 unfold flats
 constructor
 ·rintro (h | h)
  ·exact .inl h
  ·obtain ⟨l, hl, hz⟩ := List.mem_flatten.1 h
   obtain ⟨a, ha, rfl⟩ := List.mem_map.1 hl
   exact .inr ⟨a, ha, hz⟩
 ·rintro (h | ⟨a, ha, hz⟩)
  ·exact .inl h
  ·exact .inr (List.mem_flatten.2 ⟨_, List.mem_map_of_mem ha, hz⟩)
theorem repl_form {x y : Ex} (hx : flat x = [x]) (hw : wEx x = 1) (hd : exDepth x = 1) {e e' : Ex} (h : Repl x y e e') : wEx e' ≤ wEx e ∧ exDepth e' ≤ exDepth e ∧ ∀ z ∈ flat e', z = x ∨ ∃ u ∈ flat e, z.kind = u.kind ∧ z.op = u.op ∧ z.t = u.t ∧ z.v = u.v ∧ z.name = u.name ∧ z.args.length = u.args.length := by
 induction h with
 | here =>
   refine ⟨by rw [hw]; exact wEx_pos y, by rw [hd]; exact (exDepth_le y).1, fun z hz => ?_⟩
   rw [hx] at hz
   exact .inl (by simpa using hz)
 | arg e pre post a a' hea hr ih =>
   obtain ⟨i1, i2, i3⟩ := ih
   have hwa : (e.withArgs (pre ++ a' :: post)).args = pre ++ a' :: post := by cases e; rfl
   refine ⟨?_, ?_, fun z hz => ?_⟩
   ·rw [wEx_eq, wEx_eq e, hwa, hea]
    simp only [List.map_append, List.map_cons, List.sum_append, List.sum_cons]
    omega
   ·rw [exDepth_eq, exDepth_eq e, hwa, hea]
    have key : ∀ (l : List Int) (b c d : Int), b ≤ c → l.foldl max (max d b) ≤ l.foldl max (max d c) := fun l => by
     induction l with
     | nil => intro b c d h; simp; omega
     | cons v l ih => intro b c d h; rw [List.foldl_cons, List.foldl_cons, show max (max d b) v = max (max d v) b from by omega, show max (max d c) v = max (max d v) c from by omega]; exact ih b c _ h
    simp only [List.map_append, List.map_cons, List.foldl_append, List.foldl_cons]
    have := key (post.map exDepth) _ _ ((pre.map exDepth).foldl max 0) i2
    omega
   ·rcases flat_mem.1 hz with rfl | ⟨b, hb, hzb⟩
    ·right
     refine ⟨e, flat_mem.2 (.inl rfl), ?_⟩
     have : (e.withArgs (pre ++ a' :: post)).args.length = e.args.length := by rw [hwa, hea]; simp
     refine ⟨?_, ?_, ?_, ?_, ?_, this⟩ <;> (cases e; rfl)
    ·rw [hwa] at hb
     rcases List.mem_append.1 hb with hb | hb
     ·exact .inr ⟨z, flat_mem.2 (.inr ⟨b, by rw [hea]; simp [hb], hzb⟩), rfl, rfl, rfl, rfl, rfl, rfl⟩
     ·rcases List.mem_cons.1 hb with rfl | hb
      ·rcases i3 z hzb with h | ⟨u, hu, h⟩
       ·exact .inl h
       ·exact .inr ⟨u, flat_mem.2 (.inr ⟨a, by rw [hea]; simp, hu⟩), h⟩
      ·exact .inr ⟨z, flat_mem.2 (.inr ⟨b, by rw [hea]; simp [hb], hzb⟩), rfl, rfl, rfl, rfl, rfl, rfl⟩
theorem repl_exprX {es : List En} {x y e e' : Ex} (hx : flat x = [x]) (hw : wEx x = 1) (hd : exDepth x = 1) (ho : oneX x = 0) (hi : insX es x = 0) (h : Repl x y e e') (he : exprX es e = 0) : exprX es e' = 0 := by
 obtain ⟨r1, r2, r3⟩ := repl_form hx hw hd h
 unfold exprX at he ⊢
 have hc : checkX e = 0 := Classical.byContradiction fun hh => by rw [if_neg hh] at he; exact hh he
 rw [if_pos hc] at he
 have hins := firstE_zero he
 unfold checkX at hc ⊢
 have hs : ¬ (400 < wEx e ∨ 32 < exDepth e) := fun hh => by rw [if_pos hh] at hc; cases hc
 rw [if_neg hs] at hc
 have hone := firstE_zero hc
 have hs2 : ¬ (400 < wEx e' ∨ 32 < exDepth e') := by omega
 rw [if_neg hs2, firstE_of_all (f := oneX), if_pos rfl, firstE_of_all]
 ·intro z hz
  rcases r3 z hz with rfl | ⟨u, hu, a1, a2, a3, a4, a5, a6⟩
  ·exact hi
  ·have := hins u hu
   unfold insX at this ⊢
   rw [a1, a3, a4, a6]; exact this
 ·intro z hz
  rcases r3 z hz with rfl | ⟨u, hu, a1, a2, a3, a4, a5, a6⟩
  ·exact ho
  ·have := hone u hu
   unfold oneX at this ⊢
   rw [a1, a2, a3, a4, a5, a6]; exact this
theorem repl_resT {w : Plc} {x y e e' : Ex} (hxy : ∀ b, resT w b x = resT w b y) (h : Repl x y e e') : ∀ b, resT w b e' = resT w b e := by
 induction h with
 | here => exact hxy
 | arg e pre post a a' hea hr ih =>
   intro b
   have hwa : (e.withArgs (pre ++ a' :: post)).args = pre ++ a' :: post := by cases e; rfl
   rw [resT_eq w b e, resT_eq, hwa, hea]
   have hm : (pre ++ a' :: post).map (resT w true) = (pre ++ a :: post).map (resT w true) := by
    simp only [List.map_append, List.map_cons, ih true]
   rw [hm]
   have hk : ∀ l, kindT w (e.withArgs (pre ++ a' :: post)) l b = kindT w e l b := fun l => by
    cases e; rfl
   rw [hk]
theorem sub_resT {w : Plc} : ∀ (m : Nat) (e : Ex), wEx e ≤ m → ∀ b, (resT w b e).2 = 0 → ∀ z ∈ flat e, z = e ∨ (resT w true z).2 = 0
 | 0, e, h => by have := wEx_pos e; omega
 | m + 1, e, h => by
   intro b hb z hz
   rcases flat_mem.1 hz with rfl | ⟨a, ha, hz⟩
   ·exact .inl rfl
   ·have h3 : (heads (e.args.map (resT w true))).2 = 0 := by
     rw [resT_eq] at hb
     exact Classical.byContradiction fun hh => by rw [if_pos hh] at hb; exact hh hb
    have h4 := heads_all _ h3 _ (List.mem_map_of_mem ha)
    rcases sub_resT m a (by have := wEx_arg ha; omega) true h4 z hz with rfl | h5
    ·exact .inr h4
    ·exact .inr h5
theorem sub_exprX {es : List En} : ∀ (m : Nat) (e : Ex), wEx e ≤ m → exprX es e = 0 → ∀ z ∈ flat e, exprX es z = 0
 | 0, e, h => by have := wEx_pos e; omega
 | m + 1, e, h => by
   intro he z hz
   rcases flat_mem.1 hz with rfl | ⟨a, ha, hz⟩
   ·exact he
   ·exact sub_exprX m a (by have := wEx_arg ha; omega) (exprX_arg he ha) z hz
def cstX (t : I64) : Ex := .mk ⟨1, by decide⟩ ⟨0, by decide⟩ t ⟨0, by decide⟩ [] []
theorem ofT_some {p : Prog} {node : I64} {n : Nod} (h0 : 0 ≤ node.1) (hn : p.nodes[node.1.toNat]? = some n) (e : Ex) : ofT p node e = if exprX p.enums e ≠ 0 then ([], exprX p.enums e) else resT ⟨p, node, varsL n⟩ false e := by
 have hl := (List.getElem?_eq_some_iff.1 hn).1
 unfold ofT
 rw [if_neg (by omega), hn]
theorem cst_form (t : I64) : flat (cstX t) = [cstX t] ∧ wEx (cstX t) = 1 ∧ exDepth (cstX t) = 1 := by
 refine ⟨by rw [flat_eq]; rfl, by rw [wEx_eq]; rfl, by rw [exDepth_eq]; rfl⟩
theorem cst_ins {es : List En} {t : I64} (h : sizeOfT es t.1 ≠ 0) : insX es (cstX t) = 0 := by
 have hn := size_nonneg es t.1
 unfold insX insI
 have hh : hasT es t.1 0 = true := by
  unfold hasT
  by_cases h2 : t.1 = 2
  ·rw [if_pos h2]; rfl
  ·rw [if_neg h2]; simp; omega
 simp [cstX, Ex.kind, Ex.t, Ex.v, h, hh]
theorem size_range {es : List En} {t : Int} (h : sizeOfT es t ≠ 0) : t = 1 ∨ t = 2 ∨ (3 ≤ t ∧ t - 3 < es.length) := by
 unfold sizeOfT at h
 by_cases h1 : t = 1
 ·exact .inl h1
 ·by_cases h2 : t = 2
  ·exact .inr (.inl h2)
  ·rw [if_neg h1, if_neg h2] at h
   right; right
   unfold enumOf at h
   by_cases hc : 3 ≤ t ∧ t - 3 < es.length
   ·exact hc
   ·exfalso; simp [hc] at h
theorem cst_one {es : List En} {t : I64} (h : sizeOfT es t.1 ≠ 0) : oneX (cstX t) = 0 := by
 have ht := size_range h
 show oneI 1 0 t.1 0 [] 0 = 0
 rw [oneI_eq _ _ _ _ _ _ (by decide)]
 have : formI 1 0 t.1 0 [] 0 = true := by
  unfold formI argsI tagI namedI
  rcases ht with h | h | h
  ·rw [h]; decide
  ·rw [h]; decide
  ·have h1 : t.1 ≠ 2 := by omega
   have h2 : t.1 ≠ 1 := by omega
   have h3 : 2 < t.1 := by omega
   simp [h1, h2, h3]; try omega
 rw [this]
 simp [namedI]
theorem constants_law {p : Prog} {node : I64} {n : Nod} (h0 : 0 ≤ node.1) (hn : p.nodes[node.1.toNat]? = some n) {e y : Ex} {k : Nat} (he : (ofT p node e).2 = 0) (hy : (flat e)[k]? = some y) :
  (ofT p node y).2 = 0 ∧ (k = 0 ∧ y = e ∨ (ofT p node y).1.length = 1) ∧ ∀ t : I64, ofT p node y = ([t.1], 0) → sizeOfT p.enums t.1 ≠ 0 → ∀ m, wEx e ≤ m → ofT p node (putE (cstX t) m k e).1 = ofT p node e := by
 have hf := ofT_some h0 hn
 rw [hf] at he
 have hx : exprX p.enums e = 0 := Classical.byContradiction fun hh => by rw [if_pos hh] at he; exact hh he
 rw [if_neg (by simp [hx])] at he
 have hym : y ∈ flat e := List.mem_of_getElem? hy
 have hyx := sub_exprX _ e (Nat.le_refl _) hx y hym
 have hof : ofT p node y = resT ⟨p, node, varsL n⟩ false y := by rw [hf, if_neg (by simp [hyx])]
 have hsub := sub_resT _ e (Nat.le_refl _) false he y hym
 have hk : k = 0 ∧ y = e ∨ (resT ⟨p, node, varsL n⟩ true y).2 = 0 := by
  by_cases hk : k = 0
  ·subst hk
   rw [flat_eq] at hy
   simp at hy
   exact .inl ⟨rfl, hy.symm⟩
  ·right
   rw [flat_eq, show k = (k - 1) + 1 from by omega, List.getElem?_cons_succ] at hy
   have hm := List.mem_of_getElem? hy
   unfold flats at hm
   obtain ⟨l, hl, hyl⟩ := List.mem_flatten.1 hm
   obtain ⟨a, ha, rfl⟩ := List.mem_map.1 hl
   have h3 : (heads (e.args.map (resT ⟨p, node, varsL n⟩ true))).2 = 0 := by
    rw [resT_eq] at he
    exact Classical.byContradiction fun hh => by rw [if_pos hh] at he; exact hh he
   have h4 := heads_all _ h3 _ (List.mem_map_of_mem ha)
   rcases sub_resT _ a (Nat.le_refl _) true h4 y hyl with rfl | h5
   ·exact h4
   ·exact h5
 refine ⟨?_, ?_, ?_⟩
 ·rw [hof]
  rcases hk with ⟨_, rfl⟩ | h
  ·exact he
  ·rw [resT_inner h]; exact h
 ·rcases hk with h | h
  ·exact .inl h
  ·right; rw [hof, resT_inner h]; exact resT_one h
 ·intro t ht hs m hm
  have ho := cst_one hs
  rw [hof] at ht
  obtain ⟨c1, c2, c3⟩ := cst_form t
  obtain ⟨g1, g2⟩ := (putE_spec (cstX t) m e hm k (by omega)).2 y (by rw [Int.toNat_natCast]; exact hy)
  have hx2 := repl_exprX c1 c2 c3 ho (cst_ins hs) g2 hx
  rw [hf, hf, if_neg (by rw [hx2]; simp), if_neg (by rw [hx]; simp)]
  have hcst : ∀ b, resT ⟨p, node, varsL n⟩ b (cstX t) = ([t.1], 0) := fun b => by
   rw [resT_eq]
   simp [cstX, Ex.args, heads, kindT, Ex.kind, Ex.t]
  rcases hk with ⟨rfl, rfl⟩ | h
  ·obtain ⟨m, rfl⟩ : ∃ j, m = j + 1 := ⟨m - 1, by have := wEx_pos y; omega⟩
   rw [show (putE (cstX t) (m + 1) ((0 : Nat) : Int) y).1 = cstX t from by rw [putE]; rfl, hcst, ht]
  ·refine repl_resT (fun b => ?_) g2 false
   rw [hcst]
   cases b with
   | false => exact ht.symm
   | true => rw [← resT_inner h]; exact ht.symm
end Go.Proofs.YtonjiabmcbdhdaaGreat
