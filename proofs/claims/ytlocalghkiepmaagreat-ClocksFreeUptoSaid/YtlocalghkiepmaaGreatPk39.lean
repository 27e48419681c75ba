import Derived.Test.YtlocalghkiepmaaGreatPk33
import Derived.Test.YtlocalghkiepmaaGreatPk37
import Derived.Test.YtlocalghkiepmaaGreatPk38
set_option linter.unusedSimpArgs false
set_option linter.unusedVariables false
namespace Go.Proofs.YtlocalghkiepmaaGreat
open Go Go.TL
attribute [local irreducible] TR TO Then InBlock RetK Sound LoopK Kf GG ThenL
def ndW (F : Nat → List Auto → Nat) (q w : Nat) (n : Nod) : Nat := if w + wD q n.ins + wD q n.outs + wD q n.locals + wE q n.eqs + wX q n.assume + wX q n.ensure < q then w + wD q n.ins + wD q n.outs + wD q n.locals + wE q n.eqs + wX q n.assume + wX q n.ensure + F (q - (w + wD q n.ins + wD q n.outs + wD q n.locals + wE q n.eqs + wX q n.assume + wX q n.ensure)) n.autos else w + wD q n.ins + wD q n.outs + wD q n.locals + wE q n.eqs + wX q n.assume + wX q n.ensure
def wgP (q : Nat) (p : Prog) : Nat := wgs (ndW (wgA 100000000) q) q p.nodes (wgs (fun w (u : En) => w + (u.tags.map T.s).length) q p.enums ((p.enums.map enT).length + (p.nodes.map nodT).length))
theorem ndW_le {F : Nat → List Auto → Nat} {B q w : Nat} (hF : ∀ (q : Nat), q ≤ 1500 → ∀ l : List Auto, (T.sl 1 (l.map autoT)).w ≤ 100000000 → F q l ≤ B) (hB : 2000000000 ≤ B) (hq : q ≤ 1500) (hn : w < q) {n : Nod} (hs : (nodT n).w ≤ 100000000) : ndW F q w n ≤ B + 2000 := by
 have w4 := w_nod n
 have d1 := decl_w8 (l := n.ins) (by omega)
 have d2 := decl_w8 (l := n.outs) (by omega)
 have d3 := decl_w8 (l := n.locals) (by omega)
 have e := equ_w8 (l := n.eqs) (by omega)
 have x1 := ex_w8 (l := n.assume) (by omega)
 have x2 := ex_w8 (l := n.ensure) (by omega)
 have b1 := wD_le hq d1.1 d1.2
 have b2 := wD_le hq d2.1 d2.2
 have b3 := wD_le hq d3.1 d3.2
 have b4 := wE_le hq e.1 e.2
 have b5 := wX_le hq x1.1 x1.2
 have b6 := wX_le hq x2.1 x2.2
 unfold ndW
 generalize wD q n.ins = a1 at *
 generalize wD q n.outs = a2 at *
 generalize wD q n.locals = a3 at *
 generalize wE q n.eqs = a4 at *
 generalize wX q n.assume = a5 at *
 generalize wX q n.ensure = a6 at *
 split
 ·have := hF (q - (w + a1 + a2 + a3 + a4 + a5 + a6)) (by omega) n.autos (by omega)
  omega
 ·omega
set_option maxHeartbeats 4000000 in
theorem wgP_sound (p : Prog) (hw : (T.ag (progC p)).w ≤ 100000000) (q : Nat) (hq1 : 1 ≤ q) (hq : q ≤ 1500) : Pure Tryz.prog 44 [.t (.ag (progC p)), .i q] (.i (wgP q p : Nat)) := by
 obtain ⟨hP, hln, hpl⟩ := smallP_of hw
 have l1 : (T.sl 2 (p.enums.map enT)).w + (nodesT p.nodes).w ≤ (T.ag (progC p)).w := by rw [w_ag]; simp only [progC, List.map_cons, List.map_nil, List.sum_cons, List.sum_nil]; omega
 have le1 := w_lenM enT 2 p.enums
 have hme : (p.enums.map enT).length = p.enums.length := List.length_map _
 have hml : (p.nodes.map nodT).length = p.nodes.length := List.length_map _
 have hten : ∀ u ∈ p.enums, (u.tags.map T.s).length ≤ 100000000 := fun u hu => by
  have h1 := w_inM (f := enT) (sz := 2) hu
  have h2 := (tag_w (u := u)).2.2
  rw [List.length_map]; omega
 obtain ⟨B, hB, hF⟩ : ∃ B, B = 1000000000 + 2000 * 100000000 ∧ ∀ (q : Nat), q ≤ 1500 → ∀ l : List Auto, (T.sl 1 (l.map autoT)).w ≤ 100000000 → wgA 100000000 q l ≤ B := ⟨_, rfl, wgA_le 100000000⟩
 have hA := fun l h => wgA_sound 100000000 l (Nat.le_refl _) h
 unfold wgP
 generalize wgA 100000000 = F at *
 unfold progC
 refine Sound.of tabOk Tryz.func44 (by kernel_rfl) rfl rfl ?_
 repeat' (first | refine wkt ?_ | refine wk ?_ | exact wkc | intro hc | refine wk2 ?_ ?_ | fail)
 refine TR.fin (id := 0) (EF := [(1, .i q), (2, .cp [.sl 2 (p.enums.map enT), nodesT p.nodes] 0), (5, .i (wgs (fun w (u : En) => w + (u.tags.map T.s).length) q p.enums ((p.enums.map enT).length + (p.nodes.map nodT).length) : Nat))]) (GF := []) (TR.loopN p.enums.length (fun _ => True) (fun k => [(1, .i q), (2, .cp [.sl 2 (p.enums.map enT), nodesT p.nodes] 0), (5, .i (wgs (fun w (u : En) => w + (u.tags.map T.s).length) q (p.enums.take k) ((p.enums.map enT).length + (p.nodes.map nodT).length) : Nat)), (6, .i k)]) (fun _ => []) trivial (fun k hlt _ => ?_) (fun _ => ?_)) ?_
 ·have hat := at_map enT hlt
  have htk := hten _ (List.getElem_mem hlt)
  have hb : wgs (fun w (u : En) => w + (u.tags.map T.s).length) q (p.enums.take k) ((p.enums.map enT).length + (p.nodes.map nodT).length) ≤ 300000000 := wgs_le _ _ (by omega) fun n hn u hu => by have := hten u (List.mem_of_mem_take hu); omega
  by_cases hn : wgs (fun w (u : En) => w + (u.tags.map T.s).length) q (p.enums.take k) ((p.enums.map enT).length + (p.nodes.map nodT).length) < q
  ·have hs := wgs_take hlt hn
   generalize wgs (fun w (u : En) => w + (u.tags.map T.s).length) q (p.enums.take k) ((p.enums.map enT).length + (p.nodes.map nodT).length) = w at *
   generalize p.enums[k] = u at *
   unfold enT at hat
   repeat' (first | refine wkt ?_ | refine wk ?_ | exact wkc | intro hc | refine wk2 ?_ ?_ | fail)
   exact LoopK.nextN hlt trivial ⟨rfl, rfl, by (try dsimp only); rw [hs]; rfl, rfl, trivial⟩
  ·have hs := wgs_done hn
   generalize wgs (fun w (u : En) => w + (u.tags.map T.s).length) q (p.enums.take k) ((p.enums.map enT).length + (p.nodes.map nodT).length) = w at *
   rw [hs]
   repeat' (first | refine wkt ?_ | refine wk ?_ | exact wkc | intro hc | refine wk2 ?_ ?_ | fail)
   exact ⟨rfl, ⟨rfl, rfl, rfl, trivial⟩, rfl⟩
 ·rw [List.take_length]
  repeat' (first | refine wkt ?_ | refine wk ?_ | exact wkc | intro hc | refine wk2 ?_ ?_ | fail)
  all_goals exact ⟨rfl, ⟨rfl, rfl, rfl, trivial⟩, rfl⟩
 have hw0 : wgs (fun w (u : En) => w + (u.tags.map T.s).length) q p.enums ((p.enums.map enT).length + (p.nodes.map nodT).length) ≤ 300000000 := wgs_le _ _ (by omega) fun n hn u hu => by have := hten u hu; omega
 generalize wgs (fun w (u : En) => w + (u.tags.map T.s).length) q p.enums ((p.enums.map enT).length + (p.nodes.map nodT).length) = w0 at *
 repeat' (first | refine wkt ?_ | refine wk ?_ | exact wkc | intro hc | refine wk2 ?_ ?_ | fail)
 refine TR.fin (id := 2) (EF := [(5, .i (wgs (ndW F q) q p.nodes w0 : Nat))]) (GF := []) (TR.loopN p.nodes.length (fun _ => True) (fun k => [(1, .i q), (2, .cp [.sl 2 (p.enums.map enT), nodesT p.nodes] 0), (5, .i (wgs (ndW F q) q (p.nodes.take k) w0 : Nat)), (7, .i k)]) (fun _ => []) trivial (fun k hlt _ => ?_) (fun _ => ?_)) ?_
 ·have hat := at_nod hlt
  have hnw := hln _ (List.getElem_mem hlt)
  have hb : wgs (ndW F q) q (p.nodes.take k) w0 ≤ B + 2000 := wgs_le _ _ (by omega) fun n hn u hu => ndW_le hF (by omega) hq hn (hln u (List.mem_of_mem_take hu))
  by_cases hn : wgs (ndW F q) q (p.nodes.take k) w0 < q
  ·have hs := wgs_take hlt hn
   generalize wgs (ndW F q) q (p.nodes.take k) w0 = w at *
   generalize p.nodes[k] = n at *
   rw [ndW.eq_1 F q w n] at hs
   have w4 := w_nod n
   have d1 := decl_w8 (l := n.ins) (by omega)
   have d2 := decl_w8 (l := n.outs) (by omega)
   have d3 := decl_w8 (l := n.locals) (by omega)
   have e := equ_w8 (l := n.eqs) (by omega)
   have x1 := ex_w8 (l := n.assume) (by omega)
   have x2 := ex_w8 (l := n.ensure) (by omega)
   have b1 := wD_le hq d1.1 d1.2
   have b2 := wD_le hq d2.1 d2.2
   have b3 := wD_le hq d3.1 d3.2
   have b4 := wE_le hq e.1 e.2
   have b5 := wX_le hq x1.1 x1.2
   have b6 := wX_le hq x2.1 x2.2
   have c1 := wD_sound q hq1 hq n.ins d1.1 d1.2
   have c2 := wD_sound q hq1 hq n.outs d2.1 d2.2
   have c3 := wD_sound q hq1 hq n.locals d3.1 d3.2
   have c4 := wE_sound q hq1 hq n.eqs e.1 e.2
   have c5 := wX_sound q hq1 hq n.assume x1.1 x1.2
   have c6 := wX_sound q hq1 hq n.ensure x2.1 x2.2
   have hi := hA n.autos (by omega)
   have hFs := fun q' hq' => hF q' hq' n.autos (by omega)
   clear hA hF hln hten d1 d2 d3 e x1 x2 w4
   generalize wD q n.ins = a1 at *
   generalize wD q n.outs = a2 at *
   generalize wD q n.locals = a3 at *
   generalize wE q n.eqs = a4 at *
   generalize wX q n.assume = a5 at *
   generalize wX q n.ensure = a6 at *
   unfold nodC at hat
   by_cases hn3 : w + a1 + a2 + a3 + a4 + a5 + a6 < q
   ·rw [if_pos hn3] at hs
    have hi := hi (q - (w + a1 + a2 + a3 + a4 + a5 + a6)) (by omega) (by omega)
    have hFs := hFs (q - (w + a1 + a2 + a3 + a4 + a5 + a6)) (by omega)
    generalize F (q - (w + a1 + a2 + a3 + a4 + a5 + a6)) n.autos = fz at *
    rw [show ((q - (w + a1 + a2 + a3 + a4 + a5 + a6) : Nat) : Int) = (q : Int) - ((w + a1 + a2 + a3 + a4 + a5 + a6 : Nat) : Int) by omega] at hi
    repeat' (first | refine wkt ?_ | refine wka ?_ | refine rg [.i w, .cp [.s n.name, declsT n.ins, declsT n.outs, declsT n.locals, .sl 7 (n.eqs.map equT), .sl 1 (n.autos.map autoT), .sl 6 (n.assume.map exT), .sl 6 (n.ensure.map exT)] 1, .t (declsT n.ins), .i q, .i a1, .i (w + a1 : Nat), .cp [.s n.name, declsT n.ins, declsT n.outs, declsT n.locals, .sl 7 (n.eqs.map equT), .sl 1 (n.autos.map autoT), .sl 6 (n.assume.map exT), .sl 6 (n.ensure.map exT)] 2, .t (declsT n.outs), .i q, .i a2, .i (w + a1 + a2 : Nat), .cp [.s n.name, declsT n.ins, declsT n.outs, declsT n.locals, .sl 7 (n.eqs.map equT), .sl 1 (n.autos.map autoT), .sl 6 (n.assume.map exT), .sl 6 (n.ensure.map exT)] 3, .t (declsT n.locals), .i q, .i a3, .i (w + a1 + a2 + a3 : Nat), .cp [.s n.name, declsT n.ins, declsT n.outs, declsT n.locals, .sl 7 (n.eqs.map equT), .sl 1 (n.autos.map autoT), .sl 6 (n.assume.map exT), .sl 6 (n.ensure.map exT)] 4, .t (.sl 7 (n.eqs.map equT)), .i q, .i a4, .i (w + a1 + a2 + a3 + a4 : Nat), .cp [.s n.name, declsT n.ins, declsT n.outs, declsT n.locals, .sl 7 (n.eqs.map equT), .sl 1 (n.autos.map autoT), .sl 6 (n.assume.map exT), .sl 6 (n.ensure.map exT)] 6, .t (.sl 6 (n.assume.map exT)), .i q, .i a5, .i (w + a1 + a2 + a3 + a4 + a5 : Nat), .cp [.s n.name, declsT n.ins, declsT n.outs, declsT n.locals, .sl 7 (n.eqs.map equT), .sl 1 (n.autos.map autoT), .sl 6 (n.assume.map exT), .sl 6 (n.ensure.map exT)] 7, .t (.sl 6 (n.ensure.map exT)), .i q, .i a6, .i (w + a1 + a2 + a3 + a4 + a5 + a6 : Nat), .i (w + a1 + a2 + a3 + a4 + a5 + a6 : Nat)] ?_ ?_ | refine wv c1 ?_ | refine wv c2 ?_ | refine wv c3 ?_ | refine wv c4 ?_ | refine wv c5 ?_ | refine wv c6 ?_ | refine wv hi ?_ | exact trivial | exact And.intro rfl rfl | refine And.intro (fun H env => ?_) ?_ | refine wk ?_ | exact wkc | intro hc | refine wk2 ?_ ?_ | fail)
    exact LoopK.nextN hlt trivial ⟨rfl, rfl, by (try dsimp only); rw [hs]; rfl, rfl, trivial⟩
   ·rw [if_neg hn3] at hs
    clear hi hFs
    repeat' (first | refine wkt ?_ | refine wka ?_ | refine rg [.i w, .cp [.s n.name, declsT n.ins, declsT n.outs, declsT n.locals, .sl 7 (n.eqs.map equT), .sl 1 (n.autos.map autoT), .sl 6 (n.assume.map exT), .sl 6 (n.ensure.map exT)] 1, .t (declsT n.ins), .i q, .i a1, .i (w + a1 : Nat), .cp [.s n.name, declsT n.ins, declsT n.outs, declsT n.locals, .sl 7 (n.eqs.map equT), .sl 1 (n.autos.map autoT), .sl 6 (n.assume.map exT), .sl 6 (n.ensure.map exT)] 2, .t (declsT n.outs), .i q, .i a2, .i (w + a1 + a2 : Nat), .cp [.s n.name, declsT n.ins, declsT n.outs, declsT n.locals, .sl 7 (n.eqs.map equT), .sl 1 (n.autos.map autoT), .sl 6 (n.assume.map exT), .sl 6 (n.ensure.map exT)] 3, .t (declsT n.locals), .i q, .i a3, .i (w + a1 + a2 + a3 : Nat), .cp [.s n.name, declsT n.ins, declsT n.outs, declsT n.locals, .sl 7 (n.eqs.map equT), .sl 1 (n.autos.map autoT), .sl 6 (n.assume.map exT), .sl 6 (n.ensure.map exT)] 4, .t (.sl 7 (n.eqs.map equT)), .i q, .i a4, .i (w + a1 + a2 + a3 + a4 : Nat), .cp [.s n.name, declsT n.ins, declsT n.outs, declsT n.locals, .sl 7 (n.eqs.map equT), .sl 1 (n.autos.map autoT), .sl 6 (n.assume.map exT), .sl 6 (n.ensure.map exT)] 6, .t (.sl 6 (n.assume.map exT)), .i q, .i a5, .i (w + a1 + a2 + a3 + a4 + a5 : Nat), .cp [.s n.name, declsT n.ins, declsT n.outs, declsT n.locals, .sl 7 (n.eqs.map equT), .sl 1 (n.autos.map autoT), .sl 6 (n.assume.map exT), .sl 6 (n.ensure.map exT)] 7, .t (.sl 6 (n.ensure.map exT)), .i q, .i a6, .i (w + a1 + a2 + a3 + a4 + a5 + a6 : Nat), .i (w + a1 + a2 + a3 + a4 + a5 + a6 : Nat)] ?_ ?_ | refine wv c1 ?_ | refine wv c2 ?_ | refine wv c3 ?_ | refine wv c4 ?_ | refine wv c5 ?_ | refine wv c6 ?_ | exact trivial | exact And.intro rfl rfl | refine And.intro (fun H env => ?_) ?_ | refine wk ?_ | exact wkc | intro hc | refine wk2 ?_ ?_ | fail)
    exact LoopK.nextN hlt trivial ⟨rfl, rfl, by (try dsimp only); rw [hs]; rfl, rfl, trivial⟩
  ·have hs := wgs_done hn
   generalize wgs (ndW F q) q (p.nodes.take k) w0 = w at *
   rw [hs]
   repeat' (first | refine wkt ?_ | refine wk ?_ | exact wkc | intro hc | refine wk2 ?_ ?_ | fail)
   exact ⟨rfl, ⟨rfl, trivial⟩, rfl⟩
 ·rw [List.take_length]
  repeat' (first | refine wkt ?_ | refine wk ?_ | exact wkc | intro hc | refine wk2 ?_ ?_ | fail)
  all_goals exact ⟨rfl, ⟨rfl, trivial⟩, rfl⟩
 ·repeat' (first | refine wkt ?_ | refine wk ?_ | exact wkc | intro hc | refine wk2 ?_ ?_ | fail)
  exact wkr
def heavyP (p : Prog) : Bool := decide (1500 ≤ wgP 1500 p)
theorem heavy_sound (p : Prog) (hw : (T.ag (progC p)).w ≤ 100000000) : Pure Tryz.prog 14 [.t (.ag (progC p))] (.b (heavyP p)) := by
 have hs := wgP_sound p hw 1500 (by omega) (Nat.le_refl _)
 unfold heavyP
 generalize wgP 1500 p = z at *
 unfold progC at *
 by_cases h : 1500 ≤ z
 ·rw [decide_eq_true h]
  refine Sound.of tabOk Tryz.func14 (by kernel_rfl) rfl rfl ?_
  repeat' (first | refine wkt ?_ | refine wk ?_ | exact wkc | intro hc | refine wk2 ?_ ?_ | refine wv hs ?_ | fail)
  all_goals first
   | exact wkr
   | (exfalso; omega)
 ·rw [decide_eq_false h]
  refine Sound.of tabOk Tryz.func14 (by kernel_rfl) rfl rfl ?_
  repeat' (first | refine wkt ?_ | refine wk ?_ | exact wkc | intro hc | refine wk2 ?_ ?_ | refine wv hs ?_ | fail)
  all_goals first
   | exact wkr
   | (exfalso; omega)
set_option maxHeartbeats 4000000 in
theorem clocksOrders_law (a b c : List OnC) (ha : SmallK a) (hb : SmallK b) (hc' : SmallK c) : Pure Tryz.prog 7 [.t (onsT a), .t (onsT b), .t (onsT c)] (.b true) := by
 have h0 := awake12_sound
 have la : (a.map onT).length = a.length := List.length_map _
 have lb : (b.map onT).length = b.length := List.length_map _
 have lc : (c.map onT).length = c.length := List.length_map _
 have s1 := sameK_sound a b ha hb
 have s2 := sameKR_sound a b ha hb
 have w1 := within_sound a b ha hb
 have w2 := withinR_sound a b ha hb
 have w3 := within_sound a a ha ha
 have w4 := within_sound a [] ha SmallK.nil
 have w5 := within_sound b c hb hc'
 have w6 := within_sound a c ha hc'
 have w7 := within_sound b a hb ha
 rw [within_self] at w3
 rw [within_nil] at w4
 have f1 := within_both a b
 have f2 := fun h1 h2 => @within_trans a b c h1 h2
 generalize decide (a = b) = z at *
 generalize withinX a b = z1 at *
 generalize withinX b c = z2 at *
 generalize withinX a c = z3 at *
 generalize withinX b a = z4 at *
 subst f1
 cases z1 <;> cases z2 <;> cases z3 <;> cases z4
 all_goals first
  | (exact absurd (f2 rfl rfl) (by decide))
  | (clear f2
     refine Sound.of tabOk Tryz.func7 (by kernel_rfl) rfl rfl ?_
     repeat' (first | refine wkt ?_ | refine wv h0 ?_ | refine wv s1 ?_ | refine wv s2 ?_ | refine wv w1 ?_ | refine wv w2 ?_ | refine wv w3 ?_ | refine wv w4 ?_ | refine wv w5 ?_ | refine wv w6 ?_ | refine wv w7 ?_ | refine wk ?_ | exact wkc | intro hc | refine wk2 ?_ ?_ | fail)
     all_goals exact wkr)
structure ArgK (p : Prog) : Prop where
 w : (T.ag (progC p)).w ≤ 100000000
theorem ArgK.clk {p : Prog} (h : ArgK p) : ∀ n ∈ p.nodes, ∀ d ∈ varsL n, SmallK d.clock := fun n hn => smallK_of ((smallP_of h.w).2.1 n hn)
theorem clkP_small {p : Prog} (h : ArgK p) (node : I64) (nm : Str) : SmallK (clkP p node nm).1 := by
 unfold clkP
 split
 ·exact SmallK.nil
 ·split
  ·rename_i n hn
   split
   ·rename_i d hd
    exact h.clk n (List.mem_of_getElem? hn) d (findD_mem hd).1
   ·exact SmallK.nil
  ·exact SmallK.nil
theorem clocksOf_law (p : Prog) (hp : ArgK p) (node : I64) (nm : Str) : Pure Tryz.prog 6 [.t (.ag (progC p)), .i node.1, .s nm] (.b true) := by
 have h0 := awake12_sound
 have hh := heavy_sound p hp.w
 have c1 := clkP_sound p (smallP_of hp.w).1 node nm
 have c2 := clkPR_sound p (smallP_of hp.w).1 node nm
 have hs := clkP_small hp node nm
 generalize clkP p node nm = r at *
 obtain ⟨r1, r2⟩ := r
 simp only at hs c1 c2
 have s1 := sameK_sound r1 r1 hs hs
 have s2 := sameKR_sound r1 r1 hs hs
 rw [decide_eq_true rfl] at s1 s2
 generalize heavyP p = hv at *
 unfold progC at *
 cases hv
 all_goals
  refine Sound.of tabOk Tryz.func6 (by kernel_rfl) rfl rfl ?_
  repeat' (first | refine wkt ?_ | refine wv hh ?_ | refine wv h0 ?_ | refine wv c1 ?_ | refine wv c2 ?_ | refine wv s1 ?_ | refine wv s2 ?_ | refine wk ?_ | exact wkc | intro hc | refine wk2 ?_ ?_ | fail)
  all_goals first
   | exact wkr
   | (exfalso; omega)
theorem clocksFits_law (p : Prog) (hp : ArgK p) (node : I64) (e : Ex) (he : wEx e ≤ 1000000000) (hn : ∀ x ∈ flat e, x.name.length ≤ 1000000000) (ck : List OnC) (hck : SmallK ck) :
  Pure Tryz.prog 5 [.t (.ag (progC p)), .i node.1, .t (.ag (exC e)), .t (onsT ck)] (.b true) := by
 have h0 := awake12_sound
 have hh := heavy_sound p hp.w
 have hw := weigh_sound' _ e (Nat.le_refl _) 1500 (by omega) (by omega)
 have c1 := fitsP_sound p (smallP_of hp.w).1 hp.clk node e he hn ck hck
 have c2 := fitsPR_sound p (smallP_of hp.w).1 hp.clk node e he hn ck hck
 have mck : (ck.map onT).length = ck.length := List.length_map _
 rw [fitsPR_eq] at c2
 generalize fitsP p node e ck = z at *
 generalize min (wEx e) 1500 = wz at *
 generalize heavyP p = hv at *
 unfold progC exC at *
 cases hv
 all_goals
  refine Sound.of tabOk Tryz.func5 (by kernel_rfl) rfl rfl ?_
  repeat' (first | refine wkt ?_ | refine rg [.t (.ag [.sl 2 (p.enums.map enT), nodesT p.nodes]), .i node.1, .t (.ag [T.n e.kind, T.n e.op, T.n e.t, T.n e.v, .s e.name, .sl 6 (e.args.map exT)]), .t (onsT ck), .i z, .t (.ag [.sl 2 (p.enums.map enT), nodesT p.nodes]), .i node.1, .t (.ag [T.n e.kind, T.n e.op, T.n e.t, T.n e.v, .s e.name, .sl 6 (e.args.map exT)]), .t (onsT ck), .i z, .b true, .b true, .b true, .b true, .b true] ?_ ?_ | refine wv hh ?_ | refine wv h0 ?_ | refine wv hw ?_ | refine wv c1 ?_ | refine wv c2 ?_ | exact trivial | exact And.intro rfl rfl | refine And.intro (fun H env => ?_) ?_ | refine wk ?_ | exact wkc | intro hc | refine wk2 ?_ ?_ | fail)
  all_goals first
   | exact wkr
   | (exfalso; omega)
theorem clocksFree_law (p : Prog) (hp : ArgK p) (node : I64) (e : Ex) (he : wEx e ≤ 1000000000) (hn : ∀ x ∈ flat e, x.name.length ≤ 1000000000) (ck : List OnC) (hck : SmallK ck) :
  Pure Tryz.prog 10 [.t (.ag (progC p)), .i node.1, .t (.ag (exC e)), .t (onsT ck)] (.b true) := by
 have h0 := awake12_sound
 have hh := heavy_sound p hp.w
 have hw := weigh_sound' _ e (Nat.le_refl _) 1500 (by omega) (by omega)
 have c1 := fitsP_sound p (smallP_of hp.w).1 hp.clk node e he hn ck hck
 have mck : (ck.map onT).length = ck.length := List.length_map _
 have hml : (p.nodes.map nodT).length = p.nodes.length := List.length_map _
 have hpl := (smallP_of hp.w).2.2
 have hnm := namesE_sound e he
 have hx := exprX_sound p.enums e he
 rw [exT_eq] at hx
 have mns : ((namesX [] e).map T.s).length = (namesX [] e).length := List.length_map _
 have hfr := fun h1 h2 => @free_law p node e ck h1 h2
 have hnil : namesX [] e ≠ [] → 0 < (namesX [] e).length := fun h => List.length_pos_iff.2 h
 generalize fitsP p node e ck = z at *
 generalize exprX p.enums e = zx at *
 generalize min (wEx e) 1500 = wz at *
 generalize heavyP p = hv at *
 generalize namesX [] e = ns at *
 unfold progC exC at *
 by_cases hgo : ns = [] ∧ ck.length ≤ 4
 ·obtain ⟨rfl, h4⟩ := hgo
  have hz := hfr rfl h4
  clear hfr hnil
  by_cases h2 : node.1 < 0 ∨ (p.nodes.length : Int) ≤ node.1
  ·rw [if_pos h2] at hz
   subst hz
   cases hv
   all_goals
    refine Sound.of tabOk Tryz.func10 (by kernel_rfl) rfl rfl ?_
    repeat' (first | refine wkt ?_ | refine wv hh ?_ | refine wv h0 ?_ | refine wv hw ?_ | refine wv hnm ?_ | refine wv c1 ?_ | refine wv hx ?_ | refine wk ?_ | exact wkc | intro hc | refine wk2 ?_ ?_ | fail)
    all_goals first
     | exact wkr
     | (exfalso; omega)
  ·rw [if_neg h2] at hz
   subst hz
   cases hv
   all_goals
    refine Sound.of tabOk Tryz.func10 (by kernel_rfl) rfl rfl ?_
    repeat' (first | refine wkt ?_ | refine wv hh ?_ | refine wv h0 ?_ | refine wv hw ?_ | refine wv hnm ?_ | refine wv c1 ?_ | refine wv hx ?_ | refine wk ?_ | exact wkc | intro hc | refine wk2 ?_ ?_ | fail)
    all_goals first
     | exact wkr
     | (exfalso; omega)
 ·have hbad : 0 < ns.length ∨ 4 < ck.length := by
   by_cases h : ns = []
   ·exact .inr (Nat.lt_of_not_le fun h4 => hgo ⟨h, h4⟩)
   ·exact .inl (hnil h)
  clear hfr hnil
  cases hv
  all_goals
   refine Sound.of tabOk Tryz.func10 (by kernel_rfl) rfl rfl ?_
   repeat' (first | refine wkt ?_ | refine wv hh ?_ | refine wv h0 ?_ | refine wv hw ?_ | refine wv hnm ?_ | refine wk ?_ | exact wkc | intro hc | refine wk2 ?_ ?_ | fail)
   all_goals first
    | exact wkr
    | (exfalso; omega)
end Go.Proofs.YtlocalghkiepmaaGreat
