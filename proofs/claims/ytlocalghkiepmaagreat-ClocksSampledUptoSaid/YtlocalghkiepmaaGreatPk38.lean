import Derived.Test.YtlocalghkiepmaaGreatPk32
import Derived.Test.YtlocalghkiepmaaGreatPk33
import Derived.Test.YtlocalghkiepmaaGreatPk36
import Derived.Test.YtlocalghkiepmaaGreatPk37
set_option linter.unusedSimpArgs false
set_option linter.unusedVariables false
namespace Go.Proofs.YtlocalghkiepmaaGreat
open Go Go.TL
attribute [local irreducible] TR TO Then InBlock RetK Sound LoopK Kf GG ThenL
def ndW (F : Nat → List Auto → Nat) (q w : Nat) (n : Nod) : Nat := if w + wD q n.ins + wD q n.outs + wD q n.locals + wE q n.eqs + wX q n.assume + wX q n.ensure < q then w + wD q n.ins + wD q n.outs + wD q n.locals + wE q n.eqs + wX q n.assume + wX q n.ensure + F (q - (w + wD q n.ins + wD q n.outs + wD q n.locals + wE q n.eqs + wX q n.assume + wX q n.ensure)) n.autos else w + wD q n.ins + wD q n.outs + wD q n.locals + wE q n.eqs + wX q n.assume + wX q n.ensure
def wgP (q : Nat) (p : Prog) : Nat := wgs (ndW (wgA 100000000) q) q p.nodes (wgs (fun w (u : En) => w + (u.tags.map T.s).length) q p.enums ((p.enums.map enT).length + (p.nodes.map nodT).length))
theorem ndW_le {F : Nat → List Auto → Nat} {B q w : Nat} (hF : ∀ (q : Nat), q ≤ 1500 → ∀ l : List Auto, (T.sl 1 (l.map autoT)).w ≤ 100000000 → F q l ≤ B) (hB : 2000000000 ≤ B) (hq : q ≤ 1500) (hn : w < q) {n : Nod} (hs : (nodT n).w ≤ 100000000) : ndW F q w n ≤ B + 2000 := by
 have w4 := w_nod n
 have d1 := decl_w8 (l := n.ins) (by omega)
 have d2 := decl_w8 (l := n.outs) (by omega)
 have d3 := decl_w8 (l := n.locals) (by omega)
 have e := equ_w8 (l := n.eqs) (by omega)
 have x1 := ex_w8 (l := n.assume) (by omega)
 have x2 := ex_w8 (l := n.ensure) (by omega)
 have b1 := wD_le hq d1.1 d1.2
 have b2 := wD_le hq d2.1 d2.2
 have b3 := wD_le hq d3.1 d3.2
 have b4 := wE_le hq e.1 e.2
 have b5 := wX_le hq x1.1 x1.2
 have b6 := wX_le hq x2.1 x2.2
 unfold ndW
 generalize wD q n.ins = a1 at *
 generalize wD q n.outs = a2 at *
 generalize wD q n.locals = a3 at *
 generalize wE q n.eqs = a4 at *
 generalize wX q n.assume = a5 at *
 generalize wX q n.ensure = a6 at *
 split
 ·have := hF (q - (w + a1 + a2 + a3 + a4 + a5 + a6)) (by omega) n.autos (by omega)
  omega
 ·omega
set_option maxHeartbeats 4000000 in
theorem wgP_sound (p : Prog) (hw : (T.ag (progC p)).w ≤ 100000000) (q : Nat) (hq1 : 1 ≤ q) (hq : q ≤ 1500) : Pure Tryz.prog 44 [.t (.ag (progC p)), .i q] (.i (wgP q p : Nat)) := by
 obtain ⟨hP, hln, hpl⟩ := smallP_of hw
 have l1 : (T.sl 2 (p.enums.map enT)).w + (nodesT p.nodes).w ≤ (T.ag (progC p)).w := by rw [w_ag]; simp only [progC, List.map_cons, List.map_nil, List.sum_cons, List.sum_nil]; omega
 have le1 := w_lenM enT 2 p.enums
 have hme : (p.enums.map enT).length = p.enums.length := List.length_map _
 have hml : (p.nodes.map nodT).length = p.nodes.length := List.length_map _
 have hten : ∀ u ∈ p.enums, (u.tags.map T.s).length ≤ 100000000 := fun u hu => by
  have h1 := w_inM (f := enT) (sz := 2) hu
  have h2 := (tag_w (u := u)).2.2
  rw [List.length_map]; omega
 obtain ⟨B, hB, hF⟩ : ∃ B, B = 1000000000 + 2000 * 100000000 ∧ ∀ (q : Nat), q ≤ 1500 → ∀ l : List Auto, (T.sl 1 (l.map autoT)).w ≤ 100000000 → wgA 100000000 q l ≤ B := ⟨_, rfl, wgA_le 100000000⟩
 have hA := fun l h => wgA_sound 100000000 l (Nat.le_refl _) h
 unfold wgP
 generalize wgA 100000000 = F at *
 unfold progC
 refine Sound.of tabOk Tryz.func44 (by kernel_rfl) rfl rfl ?_
 repeat' (first | refine wkt ?_ | refine wk ?_ | exact wkc | intro hc | refine wk2 ?_ ?_ | fail)
 refine TR.fin (id := 0) (EF := [(1, .i q), (2, .cp [.sl 2 (p.enums.map enT), nodesT p.nodes] 0), (5, .i (wgs (fun w (u : En) => w + (u.tags.map T.s).length) q p.enums ((p.enums.map enT).length + (p.nodes.map nodT).length) : Nat))]) (GF := []) (TR.loopN p.enums.length (fun _ => True) (fun k => [(1, .i q), (2, .cp [.sl 2 (p.enums.map enT), nodesT p.nodes] 0), (5, .i (wgs (fun w (u : En) => w + (u.tags.map T.s).length) q (p.enums.take k) ((p.enums.map enT).length + (p.nodes.map nodT).length) : Nat)), (6, .i k)]) (fun _ => []) trivial (fun k hlt _ => ?_) (fun _ => ?_)) ?_
 ·have hat := at_map enT hlt
  have htk := hten _ (List.getElem_mem hlt)
  have hb : wgs (fun w (u : En) => w + (u.tags.map T.s).length) q (p.enums.take k) ((p.enums.map enT).length + (p.nodes.map nodT).length) ≤ 300000000 := wgs_le _ _ (by omega) fun n hn u hu => by have := hten u (List.mem_of_mem_take hu); omega
  by_cases hn : wgs (fun w (u : En) => w + (u.tags.map T.s).length) q (p.enums.take k) ((p.enums.map enT).length + (p.nodes.map nodT).length) < q
  ·have hs := wgs_take hlt hn
   generalize wgs (fun w (u : En) => w + (u.tags.map T.s).length) q (p.enums.take k) ((p.enums.map enT).length + (p.nodes.map nodT).length) = w at *
   generalize p.enums[k] = u at *
   unfold enT at hat
   repeat' (first | refine wkt ?_ | refine wk ?_ | exact wkc | intro hc | refine wk2 ?_ ?_ | fail)
   exact LoopK.nextN hlt trivial ⟨rfl, rfl, by (try dsimp only); rw [hs]; rfl, rfl, trivial⟩
  ·have hs := wgs_done hn
   generalize wgs (fun w (u : En) => w + (u.tags.map T.s).length) q (p.enums.take k) ((p.enums.map enT).length + (p.nodes.map nodT).length) = w at *
   rw [hs]
   repeat' (first | refine wkt ?_ | refine wk ?_ | exact wkc | intro hc | refine wk2 ?_ ?_ | fail)
   exact ⟨rfl, ⟨rfl, rfl, rfl, trivial⟩, rfl⟩
 ·rw [List.take_length]
  repeat' (first | refine wkt ?_ | refine wk ?_ | exact wkc | intro hc | refine wk2 ?_ ?_ | fail)
  all_goals exact ⟨rfl, ⟨rfl, rfl, rfl, trivial⟩, rfl⟩
 have hw0 : wgs (fun w (u : En) => w + (u.tags.map T.s).length) q p.enums ((p.enums.map enT).length + (p.nodes.map nodT).length) ≤ 300000000 := wgs_le _ _ (by omega) fun n hn u hu => by have := hten u hu; omega
 generalize wgs (fun w (u : En) => w + (u.tags.map T.s).length) q p.enums ((p.enums.map enT).length + (p.nodes.map nodT).length) = w0 at *
 repeat' (first | refine wkt ?_ | refine wk ?_ | exact wkc | intro hc | refine wk2 ?_ ?_ | fail)
 refine TR.fin (id := 2) (EF := [(5, .i (wgs (ndW F q) q p.nodes w0 : Nat))]) (GF := []) (TR.loopN p.nodes.length (fun _ => True) (fun k => [(1, .i q), (2, .cp [.sl 2 (p.enums.map enT), nodesT p.nodes] 0), (5, .i (wgs (ndW F q) q (p.nodes.take k) w0 : Nat)), (7, .i k)]) (fun _ => []) trivial (fun k hlt _ => ?_) (fun _ => ?_)) ?_
 ·have hat := at_nod hlt
  have hnw := hln _ (List.getElem_mem hlt)
  have hb : wgs (ndW F q) q (p.nodes.take k) w0 ≤ B + 2000 := wgs_le _ _ (by omega) fun n hn u hu => ndW_le hF (by omega) hq hn (hln u (List.mem_of_mem_take hu))
  by_cases hn : wgs (ndW F q) q (p.nodes.take k) w0 < q
  ·have hs := wgs_take hlt hn
   generalize wgs (ndW F q) q (p.nodes.take k) w0 = w at *
   generalize p.nodes[k] = n at *
   rw [ndW.eq_1 F q w n] at hs
   have w4 := w_nod n
   have d1 := decl_w8 (l := n.ins) (by omega)
   have d2 := decl_w8 (l := n.outs) (by omega)
   have d3 := decl_w8 (l := n.locals) (by omega)
   have e := equ_w8 (l := n.eqs) (by omega)
   have x1 := ex_w8 (l := n.assume) (by omega)
   have x2 := ex_w8 (l := n.ensure) (by omega)
   have b1 := wD_le hq d1.1 d1.2
   have b2 := wD_le hq d2.1 d2.2
   have b3 := wD_le hq d3.1 d3.2
   have b4 := wE_le hq e.1 e.2
   have b5 := wX_le hq x1.1 x1.2
   have b6 := wX_le hq x2.1 x2.2
   have c1 := wD_sound q hq1 hq n.ins d1.1 d1.2
   have c2 := wD_sound q hq1 hq n.outs d2.1 d2.2
   have c3 := wD_sound q hq1 hq n.locals d3.1 d3.2
   have c4 := wE_sound q hq1 hq n.eqs e.1 e.2
   have c5 := wX_sound q hq1 hq n.assume x1.1 x1.2
   have c6 := wX_sound q hq1 hq n.ensure x2.1 x2.2
   have hi := hA n.autos (by omega)
   have hFs := fun q' hq' => hF q' hq' n.autos (by omega)
   clear hA hF hln hten d1 d2 d3 e x1 x2 w4
   generalize wD q n.ins = a1 at *
   generalize wD q n.outs = a2 at *
   generalize wD q n.locals = a3 at *
   generalize wE q n.eqs = a4 at *
   generalize wX q n.assume = a5 at *
   generalize wX q n.ensure = a6 at *
   unfold nodC at hat
   by_cases hn3 : w + a1 + a2 + a3 + a4 + a5 + a6 < q
   ·rw [if_pos hn3] at hs
    have hi := hi (q - (w + a1 + a2 + a3 + a4 + a5 + a6)) (by omega) (by omega)
    have hFs := hFs (q - (w + a1 + a2 + a3 + a4 + a5 + a6)) (by omega)
    generalize F (q - (w + a1 + a2 + a3 + a4 + a5 + a6)) n.autos = fz at *
    rw [show ((q - (w + a1 + a2 + a3 + a4 + a5 + a6) : Nat) : Int) = (q : Int) - ((w + a1 + a2 + a3 + a4 + a5 + a6 : Nat) : Int) by omega] at hi
    repeat' (first | refine wkt ?_ | refine wka ?_ | refine rg [.i w, .cp [.s n.name, declsT n.ins, declsT n.outs, declsT n.locals, .sl 7 (n.eqs.map equT), .sl 1 (n.autos.map autoT), .sl 6 (n.assume.map exT), .sl 6 (n.ensure.map exT)] 1, .t (declsT n.ins), .i q, .i a1, .i (w + a1 : Nat), .cp [.s n.name, declsT n.ins, declsT n.outs, declsT n.locals, .sl 7 (n.eqs.map equT), .sl 1 (n.autos.map autoT), .sl 6 (n.assume.map exT), .sl 6 (n.ensure.map exT)] 2, .t (declsT n.outs), .i q, .i a2, .i (w + a1 + a2 : Nat), .cp [.s n.name, declsT n.ins, declsT n.outs, declsT n.locals, .sl 7 (n.eqs.map equT), .sl 1 (n.autos.map autoT), .sl 6 (n.assume.map exT), .sl 6 (n.ensure.map exT)] 3, .t (declsT n.locals), .i q, .i a3, .i (w + a1 + a2 + a3 : Nat), .cp [.s n.name, declsT n.ins, declsT n.outs, declsT n.locals, .sl 7 (n.eqs.map equT), .sl 1 (n.autos.map autoT), .sl 6 (n.assume.map exT), .sl 6 (n.ensure.map exT)] 4, .t (.sl 7 (n.eqs.map equT)), .i q, .i a4, .i (w + a1 + a2 + a3 + a4 : Nat), .cp [.s n.name, declsT n.ins, declsT n.outs, declsT n.locals, .sl 7 (n.eqs.map equT), .sl 1 (n.autos.map autoT), .sl 6 (n.assume.map exT), .sl 6 (n.ensure.map exT)] 6, .t (.sl 6 (n.assume.map exT)), .i q, .i a5, .i (w + a1 + a2 + a3 + a4 + a5 : Nat), .cp [.s n.name, declsT n.ins, declsT n.outs, declsT n.locals, .sl 7 (n.eqs.map equT), .sl 1 (n.autos.map autoT), .sl 6 (n.assume.map exT), .sl 6 (n.ensure.map exT)] 7, .t (.sl 6 (n.ensure.map exT)), .i q, .i a6, .i (w + a1 + a2 + a3 + a4 + a5 + a6 : Nat), .i (w + a1 + a2 + a3 + a4 + a5 + a6 : Nat)] ?_ ?_ | refine wv c1 ?_ | refine wv c2 ?_ | refine wv c3 ?_ | refine wv c4 ?_ | refine wv c5 ?_ | refine wv c6 ?_ | refine wv hi ?_ | exact trivial | exact And.intro rfl rfl | refine And.intro (fun H env => ?_) ?_ | refine wk ?_ | exact wkc | intro hc | refine wk2 ?_ ?_ | fail)
    exact LoopK.nextN hlt trivial ⟨rfl, rfl, by (try dsimp only); rw [hs]; rfl, rfl, trivial⟩
   ·rw [if_neg hn3] at hs
    clear hi hFs
    repeat' (first | refine wkt ?_ | refine wka ?_ | refine rg [.i w, .cp [.s n.name, declsT n.ins, declsT n.outs, declsT n.locals, .sl 7 (n.eqs.map equT), .sl 1 (n.autos.map autoT), .sl 6 (n.assume.map exT), .sl 6 (n.ensure.map exT)] 1, .t (declsT n.ins), .i q, .i a1, .i (w + a1 : Nat), .cp [.s n.name, declsT n.ins, declsT n.outs, declsT n.locals, .sl 7 (n.eqs.map equT), .sl 1 (n.autos.map autoT), .sl 6 (n.assume.map exT), .sl 6 (n.ensure.map exT)] 2, .t (declsT n.outs), .i q, .i a2, .i (w + a1 + a2 : Nat), .cp [.s n.name, declsT n.ins, declsT n.outs, declsT n.locals, .sl 7 (n.eqs.map equT), .sl 1 (n.autos.map autoT), .sl 6 (n.assume.map exT), .sl 6 (n.ensure.map exT)] 3, .t (declsT n.locals), .i q, .i a3, .i (w + a1 + a2 + a3 : Nat), .cp [.s n.name, declsT n.ins, declsT n.outs, declsT n.locals, .sl 7 (n.eqs.map equT), .sl 1 (n.autos.map autoT), .sl 6 (n.assume.map exT), .sl 6 (n.ensure.map exT)] 4, .t (.sl 7 (n.eqs.map equT)), .i q, .i a4, .i (w + a1 + a2 + a3 + a4 : Nat), .cp [.s n.name, declsT n.ins, declsT n.outs, declsT n.locals, .sl 7 (n.eqs.map equT), .sl 1 (n.autos.map autoT), .sl 6 (n.assume.map exT), .sl 6 (n.ensure.map exT)] 6, .t (.sl 6 (n.assume.map exT)), .i q, .i a5, .i (w + a1 + a2 + a3 + a4 + a5 : Nat), .cp [.s n.name, declsT n.ins, declsT n.outs, declsT n.locals, .sl 7 (n.eqs.map equT), .sl 1 (n.autos.map autoT), .sl 6 (n.assume.map exT), .sl 6 (n.ensure.map exT)] 7, .t (.sl 6 (n.ensure.map exT)), .i q, .i a6, .i (w + a1 + a2 + a3 + a4 + a5 + a6 : Nat), .i (w + a1 + a2 + a3 + a4 + a5 + a6 : Nat)] ?_ ?_ | refine wv c1 ?_ | refine wv c2 ?_ | refine wv c3 ?_ | refine wv c4 ?_ | refine wv c5 ?_ | refine wv c6 ?_ | exact trivial | exact And.intro rfl rfl | refine And.intro (fun H env => ?_) ?_ | refine wk ?_ | exact wkc | intro hc | refine wk2 ?_ ?_ | fail)
    exact LoopK.nextN hlt trivial ⟨rfl, rfl, by (try dsimp only); rw [hs]; rfl, rfl, trivial⟩
  ·have hs := wgs_done hn
   generalize wgs (ndW F q) q (p.nodes.take k) w0 = w at *
   rw [hs]
   repeat' (first | refine wkt ?_ | refine wk ?_ | exact wkc | intro hc | refine wk2 ?_ ?_ | fail)
   exact ⟨rfl, ⟨rfl, trivial⟩, rfl⟩
 ·rw [List.take_length]
  repeat' (first | refine wkt ?_ | refine wk ?_ | exact wkc | intro hc | refine wk2 ?_ ?_ | fail)
  all_goals exact ⟨rfl, ⟨rfl, trivial⟩, rfl⟩
 ·repeat' (first | refine wkt ?_ | refine wk ?_ | exact wkc | intro hc | refine wk2 ?_ ?_ | fail)
  exact wkr
def heavyP (p : Prog) : Bool := decide (1500 ≤ wgP 1500 p)
theorem heavy_sound (p : Prog) (hw : (T.ag (progC p)).w ≤ 100000000) : Pure Tryz.prog 14 [.t (.ag (progC p))] (.b (heavyP p)) := by
 have hs := wgP_sound p hw 1500 (by omega) (Nat.le_refl _)
 unfold heavyP
 generalize wgP 1500 p = z at *
 unfold progC at *
 by_cases h : 1500 ≤ z
 ·rw [decide_eq_true h]
  refine Sound.of tabOk Tryz.func14 (by kernel_rfl) rfl rfl ?_
  repeat' (first | refine wkt ?_ | refine wk ?_ | exact wkc | intro hc | refine wk2 ?_ ?_ | refine wv hs ?_ | fail)
  all_goals first
   | exact wkr
   | (exfalso; omega)
 ·rw [decide_eq_false h]
  refine Sound.of tabOk Tryz.func14 (by kernel_rfl) rfl rfl ?_
  repeat' (first | refine wkt ?_ | refine wk ?_ | exact wkc | intro hc | refine wk2 ?_ ?_ | refine wv hs ?_ | fail)
  all_goals first
   | exact wkr
   | (exfalso; omega)
structure ArgK (p : Prog) : Prop where
 w : (T.ag (progC p)).w ≤ 100000000
theorem ArgK.clk {p : Prog} (h : ArgK p) : ∀ n ∈ p.nodes, ∀ d ∈ varsL n, SmallK d.clock := fun n hn => smallK_of ((smallP_of h.w).2.1 n hn)
theorem clkP_small {p : Prog} (h : ArgK p) (node : I64) (nm : Str) : SmallK (clkP p node nm).1 := by
 unfold clkP
 split
 ·exact SmallK.nil
 ·split
  ·rename_i n hn
   split
   ·rename_i d hd
    exact h.clk n (List.mem_of_getElem? hn) d (findD_mem hd).1
   ·exact SmallK.nil
  ·exact SmallK.nil
set_option maxHeartbeats 8000000 in
theorem clocksRight_law (p : Prog) (hp : ArgK p) : Pure Tryz.prog 8 [.t (.ag (progC p))] (.b true) := by
 have h0 := awake12_sound
 have hh := heavy_sound p hp.w
 obtain ⟨hP, hln, hpl⟩ := smallP_of hp.w
 have hml : (p.nodes.map nodT).length = p.nodes.length := List.length_map _
 have hc := clocksX_sound p hp.w
 have hnk := fun h n hn => nodK_of (p := p) (clocks_ok h).2.1 hn (hln n hn)
 have hlaw := fun h k hk hk63 => @right_law p h k hk hk63
 have hfi := fitsP_sound p hP hp.clk
 have hcl := clkP_sound p hP
 have hcs := hp.clk
 have hpn := hP.nodes
 have hpe := hP.each
 have hpk := hP.clocks
 generalize clocksX p = t at *
 obtain ⟨⟨t1, t2⟩, t3⟩ := t
 simp only at hc hnk hlaw
 have hpc : progC p = [.sl 2 (p.enums.map enT), nodesT p.nodes] := rfl
 rw [hpc] at *
 generalize heavyP p = hv at *
 cases hv with
 | true =>
   refine Sound.of tabOk Tryz.func8 (by kernel_rfl) rfl rfl ?_
   repeat' (first | refine wkt ?_ | refine wka ?_ | refine wk ?_ | exact wkc | intro hc | refine wk2 ?_ ?_ | refine wv hh ?_ | refine wv h0 ?_ | fail)
   exact wkr
 | false =>
 by_cases h3 : t3 = 0
 ·replace hnk := hnk h3
  replace hlaw := hlaw h3
  subst h3
  refine Sound.of tabOk Tryz.func8 (by kernel_rfl) rfl rfl ?_
  repeat' (first | refine wkt ?_ | refine wka ?_ | refine wk ?_ | exact wkc | intro hc | refine wk2 ?_ ?_ | refine wv hh ?_ | refine wv hc ?_ | fail)
  refine TR.loopN p.nodes.length (fun _ => True) (fun k => [(1, .cp [.sl 2 (p.enums.map enT), nodesT p.nodes] 0), (4, .i 0), (5, .i k)]) (fun _ => []) trivial (fun k hlt _ => ?_) (fun _ => ?_)
  ·have hx := at_nod hlt
   have hmem := List.getElem_mem hlt
   have hk63 : (k : Int) ≤ 9223372036854775807 := by omega
   obtain ⟨L1, L2⟩ := hlaw k hlt hk63
   have hN := hnk _ hmem
   have hvs := vars_sound p.nodes[k] (hpe _ hmem) (hpk _ hmem)
   have hcv := hcs _ hmem
   have hcl := fun nm => hcl (nI k) nm
   have hfi := fun e he hn ck hck => hfi (nI k) e he hn ck hck
   rw [nI_val hk63] at hcl hfi
   have hle := hN.le
   have heq := hN.eqs
   have hvl := hN.len
   clear hN hlaw hnk hcs hpe hpk
   generalize varsL p.nodes[k] = vars at *
   generalize p.nodes[k] = n at *
   have hme : (n.eqs.map equT).length = n.eqs.length := List.length_map _
   have hmv : (vars.map declT).length = vars.length := List.length_map _
   obtain ⟨l1, l2, l3, l4⟩ := hle
   unfold nodC at *
   repeat' (first | refine wkt ?_ | refine wka ?_ | refine wk ?_ | exact wkc | intro hc | refine wk2 ?_ ?_ | fail | fail)
   refine TR.loopN n.eqs.length (fun _ => True) (fun j => [(1, .cp [.sl 2 (p.enums.map enT), nodesT p.nodes] 0), (4, .i 0), (5, .i k), (6, .cp [.s n.name, declsT n.ins, declsT n.outs, declsT n.locals, .sl 7 (n.eqs.map equT), .sl 1 (n.autos.map autoT), .sl 6 (n.assume.map exT), .sl 6 (n.ensure.map exT)] 0), (7, .i j)]) (fun _ => []) trivial (fun j hlt2 _ => ?_) (fun _ => ?_)
   ·have hx2 := at_equ hlt2
    have hmem2 := List.getElem_mem hlt2
    have q1 := heq _ hmem2
    have q2 := L1 _ hmem2
    clear heq L1 L2 hvs
    generalize n.eqs[j] = u at *
    obtain ⟨_, r2, r3, r4⟩ := q1
    have hmu : (u.left.map T.s).length = u.left.length := List.length_map _
    have hfi := hfi u.right r3 r4
    unfold equC at hx2
    unfold exC at hfi
    repeat' (first | refine wkt ?_ | refine wk ?_ | exact wkc | intro hc | refine wk2 ?_ ?_ | fail)
    refine TR.loopN u.left.length (fun _ => True) (fun l => [(1, .cp [.sl 2 (p.enums.map enT), nodesT p.nodes] 0), (4, .i 0), (5, .i k), (6, .cp [.s n.name, declsT n.ins, declsT n.outs, declsT n.locals, .sl 7 (n.eqs.map equT), .sl 1 (n.autos.map autoT), .sl 6 (n.assume.map exT), .sl 6 (n.ensure.map exT)] 0), (7, .i j), (8, .i l)]) (fun _ => []) trivial (fun l hlt3 _ => ?_) (fun _ => ?_)
    ·have hx3 := at_s hlt3
     obtain ⟨ck, e1, e2⟩ := q2 _ (List.getElem_mem hlt3)
     have hcl := hcl u.left[l]
     have hsk := clkP_small hp (nI k) u.left[l]
     rw [e1] at hcl hsk
     simp only at hcl hsk
     have hfi := hfi ck hsk
     rw [e2] at hfi
     clear e1 e2 q2
     generalize u.left[l] = s at *
     have hmc : (ck.map onT).length = ck.length := List.length_map _
     repeat' (first | refine wkt ?_ | refine rg [.t (.ag [.sl 2 (p.enums.map enT), nodesT p.nodes]), .i k, .cp [.s n.name, declsT n.ins, declsT n.outs, declsT n.locals, .sl 7 (n.eqs.map equT), .sl 1 (n.autos.map autoT), .sl 6 (n.assume.map exT), .sl 6 (n.ensure.map exT)] 4, .t (.sl 7 (n.eqs.map equT)), .i j, .cp [.sl 1 (u.left.map T.s), T.n u.right.kind, T.n u.right.op, T.n u.right.t, T.n u.right.v, .s u.right.name, .sl 6 (u.right.args.map exT)] 0, .cp [.sl 1 (u.left.map T.s), T.n u.right.kind, T.n u.right.op, T.n u.right.t, T.n u.right.v, .s u.right.name, .sl 6 (u.right.args.map exT)] 0, .t (.sl 1 (u.left.map T.s)), .i l, .cp [.s s] 0, .s s, .tup [.t (onsT ck), .i 0], .tup [.t (onsT ck), .i 0], .t (onsT ck), .i 0, .t (onsT ck), .i 0] ?_ ?_ | refine rg [.i 0, .b false, .b false, .t (.ag [.sl 2 (p.enums.map enT), nodesT p.nodes]), .i k, .cp [.s n.name, declsT n.ins, declsT n.outs, declsT n.locals, .sl 7 (n.eqs.map equT), .sl 1 (n.autos.map autoT), .sl 6 (n.assume.map exT), .sl 6 (n.ensure.map exT)] 4, .t (.sl 7 (n.eqs.map equT)), .i j, .cp [.sl 1 (u.left.map T.s), T.n u.right.kind, T.n u.right.op, T.n u.right.t, T.n u.right.v, .s u.right.name, .sl 6 (u.right.args.map exT)] 0, .cp [.sl 1 (u.left.map T.s), T.n u.right.kind, T.n u.right.op, T.n u.right.t, T.n u.right.v, .s u.right.name, .sl 6 (u.right.args.map exT)] 1, .t (.ag [T.n u.right.kind, T.n u.right.op, T.n u.right.t, T.n u.right.v, .s u.right.name, .sl 6 (u.right.args.map exT)]), .t (onsT ck), .i 0, .b false, .b false] ?_ ?_ | refine wv hcl ?_ | refine wv hfi ?_ | exact trivial | exact And.intro rfl rfl | refine And.intro (fun H env => ?_) ?_ | refine wk ?_ | exact wkc | intro hc | refine wk2 ?_ ?_ | fail)
     exact LoopK.nextN hlt3 trivial
    ·repeat' (first | refine wkt ?_ | refine wk ?_ | exact wkc | intro hc | refine wk2 ?_ ?_ | fail)
     exact LoopK.nextN hlt2 trivial
   ·clear L1 heq
    repeat' (first | refine wkt ?_ | refine wka ?_ | refine wk ?_ | exact wkc | intro hc | refine wk2 ?_ ?_ | refine wv hvs ?_ | fail)
    refine TR.loopN vars.length (fun _ => True) (fun j => [(1, .cp [.sl 2 (p.enums.map enT), nodesT p.nodes] 0), (4, .i 0), (5, .i k), (11, .t (declsT vars)), (12, .i j)]) (fun _ => []) trivial (fun j hlt2 _ => ?_) (fun _ => ?_)
    ·have hx2 := at_decl hlt2
     have q2 := L2 _ (List.getElem_mem hlt2)
     have q3 := hcv _ (List.getElem_mem hlt2)
     clear L2 hvs
     generalize vars[j] = d at *
     have hmd : (d.clock.map onT).length = d.clock.length := List.length_map _
     have hd1 := q3.1
     unfold declC at hx2
     repeat' (first | refine wkt ?_ | refine wk ?_ | exact wkc | intro hc | refine wk2 ?_ ?_ | fail)
     refine TR.loopN d.clock.length (fun _ => True) (fun l => [(1, .cp [.sl 2 (p.enums.map enT), nodesT p.nodes] 0), (4, .i 0), (5, .i k), (11, .t (declsT vars)), (12, .i j), (13, .i l)]) (fun _ => []) trivial (fun l hlt3 _ => ?_) (fun _ => ?_)
     ·have hx3 := at_on hlt3
      have e1 := q2 l hlt3
      have hcl := hcl d.clock[l].name
      rw [e1] at hcl
      simp only at hcl
      clear e1 q2
      have hs := sameK_sound (d.clock.take l) (d.clock.take l) (q3.take l) (q3.take l)
      rw [decide_eq_true rfl] at hs
      generalize d.clock[l] = o at *
      rw [show onsT (d.clock.take l) = .sl 3 ((d.clock.map onT).take l) by rw [onsT, List.map_take]] at hs hcl
      have htk : ((d.clock.map onT).take l).length = l := by rw [List.length_take]; omega
      repeat' (first | refine wkt ?_ | refine rg [.t (.ag [.sl 2 (p.enums.map enT), nodesT p.nodes]), .i k, .t (declsT vars), .i j, .cp [.s d.name, T.n d.ty, .sl 3 (d.clock.map onT)] 0, .cp [.s d.name, T.n d.ty, .sl 3 (d.clock.map onT)] 2, .t (onsT d.clock), .i l, .cp [.s o.name, T.n o.t, T.n o.tag] 0, .cp [.s o.name, T.n o.t, T.n o.tag] 0, .s o.name, .tup [.t (.sl 3 ((d.clock.map onT).take l)), .i 0], .tup [.t (.sl 3 ((d.clock.map onT).take l)), .i 0], .t (.sl 3 ((d.clock.map onT).take l)), .i 0, .t (.sl 3 ((d.clock.map onT).take l)), .i 0] ?_ ?_ | refine rg [.i 0, .b false, .b false, .t (.sl 3 ((d.clock.map onT).take l)), .t (declsT vars), .i j, .cp [.s d.name, T.n d.ty, .sl 3 (d.clock.map onT)] 0, .cp [.s d.name, T.n d.ty, .sl 3 (d.clock.map onT)] 2, .t (onsT d.clock), .i l, .t (.sl 3 ((d.clock.map onT).take l)), .b true, .b false, .b false] ?_ ?_ | refine wv hcl ?_ | refine wv hs ?_ | exact trivial | exact And.intro rfl rfl | refine And.intro (fun H env => ?_) ?_ | refine wk ?_ | exact wkc | intro hc | refine wk2 ?_ ?_ | fail)
      exact LoopK.nextN hlt3 trivial
     ·repeat' (first | refine wkt ?_ | refine wk ?_ | exact wkc | intro hc | refine wk2 ?_ ?_ | fail)
      exact LoopK.nextN hlt2 trivial
    ·repeat' (first | refine wkt ?_ | refine wk ?_ | exact wkc | intro hc | refine wk2 ?_ ?_ | fail)
     exact LoopK.nextN hlt trivial
  ·repeat' (first | refine wkt ?_ | refine wk ?_ | exact wkc | intro hc | refine wk2 ?_ ?_ | refine wv h0 ?_ | fail)
   exact wkr
 ·clear hnk hlaw
  refine Sound.of tabOk Tryz.func8 (by kernel_rfl) rfl rfl ?_
  repeat' (first | refine wkt ?_ | refine wka ?_ | refine wk ?_ | exact wkc | intro hc | refine wk2 ?_ ?_ | refine wv hh ?_ | refine wv hc ?_ | fail)
  refine TR.loopN 0 (fun _ => True) (fun k => [(1, .cp [.sl 2 (p.enums.map enT), nodesT p.nodes] 0), (4, .i t3), (5, .i 0)]) (fun _ => []) trivial (fun k hlt _ => absurd hlt (Nat.not_lt_zero _)) (fun _ => ?_)
  by_cases hl0 : (0 : Int) < p.nodes.length
  all_goals
   repeat' (first | refine wkt ?_ | refine wk ?_ | exact wkc | intro hc | refine wk2 ?_ ?_ | refine wv h0 ?_ | fail)
   all_goals first
    | exact wkr
    | (exfalso; omega)
def firstO {α β : Type} (f : Nat → α → Option β) : Nat → List α → Option β
 | _, [] => none
 | k, a :: l => match f k a with
   | some b => some b
   | none => firstO f (k + 1) l
theorem firstO_step {α β : Type} {f : Nat → α → Option β} {l : List α} {k : Nat} (h : k < l.length) : firstO f k (l.drop k) = match f k l[k] with | some b => some b | none => firstO f (k + 1) (l.drop (k + 1)) := by
 rw [List.drop_eq_getElem_cons h, firstO]
theorem firstO_end {α β : Type} {f : Nat → α → Option β} {l : List α} : firstO f l.length (l.drop l.length) = none := by
 rw [List.drop_of_length_le (Nat.le_refl _)]; rfl
theorem firstO_some {α β : Type} {f : Nat → α → Option β} {b : β} : ∀ {l : List α} {k : Nat}, firstO f k l = some b → ∃ j, ∃ h : j < l.length, f (k + j) l[j] = some b
 | a :: l, k, h => by
   rw [firstO] at h
   cases hf : f k a with
   | some c => rw [hf] at h; cases h; exact ⟨0, by simp, hf⟩
   | none =>
     rw [hf] at h
     obtain ⟨j, hj, h2⟩ := firstO_some h
     exact ⟨j + 1, by simpa using hj, by rw [show k + (j + 1) = k + 1 + j by omega]; exact h2⟩
def eqF (p : Prog) (i : Nat) (nm : Str) (k : Nat) (u : Equ) : Option (Nat × Nat × Str) :=
 if u.left.length = 1 ∧ (clkP p (nI i) (u.left.headD [])).2 = 0 ∧ (clkP p (nI i) (u.left.headD [])).1.length = 0 then some (i, k, nm) else none
def inF (p : Prog) (i : Nat) (us : List Equ) (_ : Nat) (d : Decl) : Option (Nat × Nat × Str) := if d.ty.1 = 1 then firstO (eqF p i d.name) 0 us else none
def ndF (p : Prog) (i : Nat) (n : Nod) : Option (Nat × Nat × Str) := firstO (inF p i n.eqs) 0 n.ins
def foundX (p : Prog) : Option (Nat × Nat × Str) := firstO (ndF p) 0 p.nodes
theorem found_good {p : Prog} {i k : Nat} {c : Str} (h : foundX p = some (i, k, c)) : ∃ hi : i < p.nodes.length, ∃ hk : k < p.nodes[i].eqs.length, (∃ s, p.nodes[i].eqs[k].left = [s] ∧ clkP p (nI i) s = ([], 0)) ∧ ∃ d ∈ p.nodes[i].ins, d.name = c := by
 obtain ⟨i', hi, h1⟩ := firstO_some h
 obtain ⟨j, hj, h2⟩ := firstO_some h1
 unfold inF at h2
 split at h2
 ·obtain ⟨k', hk, h3⟩ := firstO_some h2
  unfold eqF at h3
  split at h3
  ·rename_i hg
   simp only [Nat.zero_add, Option.some.injEq, Prod.mk.injEq] at h3 hg
   obtain ⟨rfl, rfl, h4⟩ := h3
   obtain ⟨g1, g2, g3⟩ := hg
   refine ⟨hi, hk, ?_, _, List.getElem_mem hj, h4⟩
   obtain ⟨s, hs⟩ := List.length_eq_one_iff.1 g1
   rw [hs] at g2 g3
   exact ⟨s, hs, Prod.ext (List.eq_nil_of_length_eq_zero g3) g2⟩
  ·cases h3
 ·cases h2
def foundV (p : Prog) : List SV := match foundX p with
 | some (i, k, c) => [.i (i : Int), .i (k : Int), .s c]
 | none => [.i 0, .i (-1), .s []]
set_option maxHeartbeats 8000000 in
theorem found_sound (p : Prog) (hp : ArgK p) : Pure Tryz.prog 28 [.t (.ag (progC p))] (.tup (foundV p)) := by
 obtain ⟨hP, hln, hpl⟩ := smallP_of hp.w
 have hml : (p.nodes.map nodT).length = p.nodes.length := List.length_map _
 have hcl := clkP_sound p hP
 have hpn := hP.nodes
 have hnE : ∀ n ∈ p.nodes, n.eqs.length ≤ 1000000000 ∧ n.ins.length ≤ 1000000000 ∧ ∀ u ∈ n.eqs, u.left.length ≤ 1000000000 := fun n hn => by
  have h1 := hln n hn
  have h2 := w_nod n
  have l0 := w_lenM declT 3 n.ins
  have l2 := w_lenM equT 7 n.eqs
  have d1 : (declsT n.ins).w = (T.sl 3 (n.ins.map declT)).w := rfl
  refine ⟨by omega, by omega, fun u hu => ?_⟩
  have hwu := w_inM (f := equT) (sz := 7) hu
  have hl := left_equ (q := u)
  omega
 have hfz : foundX p = foundX p := rfl
 conv at hfz => rhs; unfold foundX
 unfold foundV
 generalize foundX p = z at *
 have hN0 := fun i n => show ndF p i n = firstO (inF p i n.eqs) 0 n.ins from rfl
 have hI0 := fun i us j d => show inF p i us j d = if d.ty.1 = 1 then firstO (eqF p i d.name) 0 us else none from rfl
 have hE0 := fun i nm k u => show eqF p i nm k u = if u.left.length = 1 ∧ (clkP p (nI i) (u.left.headD [])).2 = 0 ∧ (clkP p (nI i) (u.left.headD [])).1.length = 0 then some (i, k, nm) else none from rfl
 have hck := fun i s => clkP_small hp (nI i) s
 generalize ndF p = NF at *
 generalize inF p = IF at *
 generalize eqF p = EF at *
 generalize clkP p = CF at *
 have hpc : progC p = [.sl 2 (p.enums.map enT), nodesT p.nodes] := rfl
 rw [hpc] at *
 refine Sound.of tabOk Tryz.func28 (by kernel_rfl) rfl rfl ?_
 repeat' (first | refine wkt ?_ | refine wka ?_ | refine wk ?_ | exact wkc | intro hc | refine wk2 ?_ ?_ | fail | fail)
 refine TR.loopN p.nodes.length (fun k => z = firstO NF k (p.nodes.drop k)) (fun k => [(1, .cp [.sl 2 (p.enums.map enT), nodesT p.nodes] 0), (5, .i k)]) (fun _ => []) hfz (fun k hlt ha => ?_) (fun ha => ?_)
 ·have hx := at_nod hlt
  have hmem := List.getElem_mem hlt
  have hk63 : (k : Int) ≤ 9223372036854775807 := by omega
  obtain ⟨w1, w2, w3⟩ := hnE _ hmem
  have hcl := fun nm => hcl (nI k) nm
  rw [nI_val hk63] at hcl
  rw [firstO_step hlt, hN0] at ha
  clear hfz hnE
  generalize p.nodes[k] = n at *
  have hme : (n.eqs.map equT).length = n.eqs.length := List.length_map _
  have hmi : (n.ins.map declT).length = n.ins.length := List.length_map _
  unfold nodC at hx
  repeat' (first | refine wkt ?_ | refine wka ?_ | refine wk ?_ | exact wkc | intro hc | refine wk2 ?_ ?_ | fail | fail)
  refine TR.loopN n.ins.length (fun j => firstO (IF k n.eqs) 0 n.ins = firstO (IF k n.eqs) j (n.ins.drop j)) (fun j => [(1, .cp [.sl 2 (p.enums.map enT), nodesT p.nodes] 0), (5, .i k), (6, .cp [.s n.name, declsT n.ins, declsT n.outs, declsT n.locals, .sl 7 (n.eqs.map equT), .sl 1 (n.autos.map autoT), .sl 6 (n.assume.map exT), .sl 6 (n.ensure.map exT)] 0), (7, .i j)]) (fun _ => []) rfl (fun j hlt2 ha2 => ?_) (fun ha2 => ?_)
  ·have hx2 := at_decl hlt2
   rw [firstO_step hlt2, hI0] at ha2
   generalize n.ins[j] = d at *
   unfold declC at hx2
   by_cases hty : d.ty.1 = 1
   ·rw [if_pos hty] at ha2
    repeat' (first | refine wkt ?_ | refine wk ?_ | exact wkc | intro hc | refine wk2 ?_ ?_ | fail | fail)
    all_goals first
     | (exfalso; omega)
     | skip
    refine TR.loopN n.eqs.length (fun q => firstO (EF k d.name) 0 n.eqs = firstO (EF k d.name) q (n.eqs.drop q)) (fun q => [(1, .cp [.sl 2 (p.enums.map enT), nodesT p.nodes] 0), (5, .i k), (6, .cp [.s n.name, declsT n.ins, declsT n.outs, declsT n.locals, .sl 7 (n.eqs.map equT), .sl 1 (n.autos.map autoT), .sl 6 (n.assume.map exT), .sl 6 (n.ensure.map exT)] 0), (7, .i j), (8, .i q)]) (fun _ => []) rfl (fun q hlt3 ha3 => ?_) (fun ha3 => ?_)
    ·have hx3 := at_equ hlt3
     have hul := w3 _ (List.getElem_mem hlt3)
     rw [firstO_step hlt3, hE0] at ha3
     generalize n.eqs[q] = u at *
     have hmu : (u.left.map T.s).length = u.left.length := List.length_map _
     unfold equC at hx3
     by_cases hl1 : u.left.length = 1
     ·obtain ⟨s, hs⟩ := List.length_eq_one_iff.1 hl1
      have hx4 : (u.left.map T.s)[0]? = some (T.s s) := by rw [hs]; rfl
      rw [show u.left.headD [] = s by rw [hs]; rfl] at ha3
      have hcl := hcl s
      have hsk := hck k s
      generalize CF (nI k) s = r at *
      obtain ⟨ck, r2⟩ := r
      simp only at ha3 hcl hsk
      have hc1 := hsk.1
      have hmc : (ck.map onT).length = ck.length := List.length_map _
      by_cases hg : r2 = 0 ∧ ck.length = 0
      ·rw [if_pos ⟨hl1, hg⟩] at ha3
       simp only at ha3
       rw [ha3] at ha2
       simp only at ha2
       rw [ha2] at ha
       simp only at ha
       subst ha
       obtain ⟨rfl, hc0⟩ := hg
       clear hck hN0 hI0 hE0
       repeat' (first | refine wkt ?_ | refine rg [.t (.ag [.sl 2 (p.enums.map enT), nodesT p.nodes]), .i k, .cp [.s n.name, declsT n.ins, declsT n.outs, declsT n.locals, .sl 7 (n.eqs.map equT), .sl 1 (n.autos.map autoT), .sl 6 (n.assume.map exT), .sl 6 (n.ensure.map exT)] 4, .t (.sl 7 (n.eqs.map equT)), .i q, .cp [.sl 1 (u.left.map T.s), T.n u.right.kind, T.n u.right.op, T.n u.right.t, T.n u.right.v, .s u.right.name, .sl 6 (u.right.args.map exT)] 0, .cp [.sl 1 (u.left.map T.s), T.n u.right.kind, T.n u.right.op, T.n u.right.t, T.n u.right.v, .s u.right.name, .sl 6 (u.right.args.map exT)] 0, .t (.sl 1 (u.left.map T.s)), .cp [.s s] 0, .s s, .tup [.t (onsT ck), .i 0], .tup [.t (onsT ck), .i 0], .t (onsT ck), .i 0, .t (onsT ck), .i 0] ?_ ?_ | refine rg [.i k, .i q, .cp [.s n.name, declsT n.ins, declsT n.outs, declsT n.locals, .sl 7 (n.eqs.map equT), .sl 1 (n.autos.map autoT), .sl 6 (n.assume.map exT), .sl 6 (n.ensure.map exT)] 1, .t (declsT n.ins), .i j, .cp [.s d.name, T.n d.ty, .sl 3 (d.clock.map onT)] 0, .cp [.s d.name, T.n d.ty, .sl 3 (d.clock.map onT)] 0, .s d.name, .i k, .i q, .s d.name] ?_ ?_ | refine wv hcl ?_ | exact trivial | exact And.intro rfl rfl | refine And.intro (fun H env => ?_) ?_ | refine wk ?_ | exact wkc | intro hc | refine wk2 ?_ ?_ | fail)
       all_goals first
        | exact wkr
        | (exfalso; omega)
      ·rw [if_neg (fun h => hg h.2)] at ha3
       simp only at ha3
       by_cases hr : r2 = 0
       all_goals
        repeat' (first | refine wkt ?_ | refine rg [.t (.ag [.sl 2 (p.enums.map enT), nodesT p.nodes]), .i k, .cp [.s n.name, declsT n.ins, declsT n.outs, declsT n.locals, .sl 7 (n.eqs.map equT), .sl 1 (n.autos.map autoT), .sl 6 (n.assume.map exT), .sl 6 (n.ensure.map exT)] 4, .t (.sl 7 (n.eqs.map equT)), .i q, .cp [.sl 1 (u.left.map T.s), T.n u.right.kind, T.n u.right.op, T.n u.right.t, T.n u.right.v, .s u.right.name, .sl 6 (u.right.args.map exT)] 0, .cp [.sl 1 (u.left.map T.s), T.n u.right.kind, T.n u.right.op, T.n u.right.t, T.n u.right.v, .s u.right.name, .sl 6 (u.right.args.map exT)] 0, .t (.sl 1 (u.left.map T.s)), .cp [.s s] 0, .s s, .tup [.t (onsT ck), .i r2], .tup [.t (onsT ck), .i r2], .t (onsT ck), .i r2, .t (onsT ck), .i r2] ?_ ?_ | refine wv hcl ?_ | exact trivial | exact And.intro rfl rfl | refine And.intro (fun H env => ?_) ?_ | refine wk ?_ | exact wkc | intro hc | refine wk2 ?_ ?_ | fail)
        all_goals first
         | exact LoopK.nextN hlt3 ha3
         | (exfalso; omega)
     ·rw [if_neg (fun h => hl1 h.1)] at ha3
      simp only at ha3
      repeat' (first | refine wkt ?_ | refine wk ?_ | exact wkc | intro hc | refine wk2 ?_ ?_ | fail | fail)
      all_goals first
       | exact LoopK.nextN hlt3 ha3
       | (exfalso; omega)
    ·rw [firstO_end] at ha3
     rw [ha3] at ha2
     simp only at ha2
     repeat' (first | refine wkt ?_ | refine wk ?_ | exact wkc | intro hc | refine wk2 ?_ ?_ | fail)
     exact LoopK.nextN hlt2 ha2
   ·rw [if_neg hty] at ha2
    simp only at ha2
    repeat' (first | refine wkt ?_ | refine wk ?_ | exact wkc | intro hc | refine wk2 ?_ ?_ | fail | fail)
    all_goals first
     | exact LoopK.nextN hlt2 ha2
     | (exfalso; omega)
  ·rw [firstO_end] at ha2
   rw [ha2] at ha
   simp only at ha
   repeat' (first | refine wkt ?_ | refine wk ?_ | exact wkc | intro hc | refine wk2 ?_ ?_ | fail)
   exact LoopK.nextN hlt ha
 ·rw [firstO_end] at ha
  subst ha
  repeat' (first | refine wkt ?_ | refine wk ?_ | exact wkc | intro hc | refine wk2 ?_ ?_ | fail)
  exact wkr
end Go.Proofs.YtlocalghkiepmaaGreat
