import Derived.Test.YtlocalghkiepmaaGreatPk15
import Derived.Test.YtlocalghkiepmaaGreatPk24
import Derived.Test.YtlocalghkiepmaaGreatPk32
import Derived.Test.YtlocalghkiepmaaGreatPk35
set_option linter.unusedSimpArgs false
set_option linter.unusedVariables false
namespace Go.Proofs.YtlocalghkiepmaaGreat
open Go Go.TL
attribute [local irreducible] TR TO Then InBlock RetK Sound LoopK Kf GG ThenL
theorem conNode_sound (fid : FuncId) (p : Nod → Bool) (l : List Nod) (hl : l.length ≤ 1000000000) (hp : ∀ d, Pure Tryz.prog fid [.t (nodT d)] (.b (p d))) :
  Pure Tryz.prog 85 [.t (nodesT l), .fn fid []] (.b (l.any p)) := by
 have hs := idxNode_sound fid [] rfl p l hl hp
 have ha := idxI_any p l
 generalize idxI p l = z at *
 have hu : unders 0 [.t (nodesT l), .fn fid []] = true := rfl
 refine Sound.of tabOk Tryz.func85 (by kernel_rfl) rfl rfl ?_
 repeat' (first | refine wk ?_ | exact wkc | intro hc | refine wk2 ?_ ?_ | (apply TO.callV hs; (iterate 3 exact rfl); exact Les.refl _; exact hu; exact rfl) | fail)
 all_goals
  refine RetK.pure rfl (Le.of_eq ?_) rfl
  refine congrArg (fun b => SV.t (T.v (Value.bool b))) ?_
  rw [← ha]; simp; omega
theorem plain1_sound (n : Nod) : Pure Tryz.prog 86 [.t (nodT n)] (.b (decide (0 < n.autos.length))) := by
 have hm : (n.autos.map autoT).length = n.autos.length := List.length_map _
 show Pure _ _ [.t (.ag (nodC n))] _
 unfold nodC
 by_cases h : 0 < n.autos.length
 ·rw [decide_eq_true h]
  refine Sound.of tabOk Tryz.func86 (by kernel_rfl) rfl rfl ?_
  repeat' (first | refine wkt ?_ | refine wk ?_ | exact wkc | intro hc | refine wk2 ?_ ?_ | fail)
  all_goals first
   | exact wkr
   | (exfalso; omega)
 ·rw [decide_eq_false h]
  refine Sound.of tabOk Tryz.func86 (by kernel_rfl) rfl rfl ?_
  repeat' (first | refine wkt ?_ | refine wk ?_ | exact wkc | intro hc | refine wk2 ?_ ?_ | fail)
  all_goals first
   | exact wkr
   | (exfalso; omega)
theorem plain_any (p : Prog) : plainP p = !(p.nodes.any fun n => decide (0 < n.autos.length)) := by
 unfold plainP
 rw [List.all_eq_not_any_not]
 congr 2
 funext n
 simp [Nat.pos_iff_ne_zero]
theorem plain_sound (p : Prog) (hp : p.nodes.length ≤ 1000000000) : Pure Tryz.prog 47 [.t (.ag (progC p))] (.b (plainP p)) := by
 have hs := conNode_sound 86 _ p.nodes hp plain1_sound
 rw [plain_any]
 generalize (p.nodes.any fun n => decide (0 < n.autos.length)) = z at *
 unfold progC
 refine Sound.of tabOk Tryz.func47 (by kernel_rfl) rfl rfl ?_
 repeat' (first | refine wkt ?_ | refine wk ?_ | exact wkc | intro hc | refine wk2 ?_ ?_ | (apply TO.callV hs; (iterate 3 exact rfl); exact Les.refl _; exact rfl; exact rfl) | fail)
 exact wkr
theorem decls_w (n : Nod) : (declsT (varsL n)).w ≤ (nodT n).w := by
 have h1 := w_nod n
 have l2 := w_lenM equT 7 n.eqs
 have e1 := w_decls_append n.ins (n.outs ++ (n.locals ++ []))
 have e2 := w_decls_append n.outs (n.locals ++ [])
 have e3 := w_decls_append n.locals []
 have e4 : (declsT ([] : List Decl)).w = 1 := by rw [w_sl]; rfl
 unfold varsL
 omega
theorem smallK_of {n : Nod} (hw : (nodT n).w ≤ 100000000) : ∀ d ∈ varsL n, SmallK d.clock := fun d hd => by
 have h0 := decls_w n
 have h2 := (name_decl hd).2
 refine ⟨clocks_of hw d hd, fun o ho => ?_⟩
 have := name_on ho
 omega
theorem nodK_of {p : Prog} (h : (typesX p).2 = 0) {n : Nod} (hn : n ∈ p.nodes) (hw : (nodT n).w ≤ 100000000) : NodK n := by
 have hwn := w_nod n
 have h0 := decls_w n
 have l0 := w_lenM declT 3 (varsL n)
 have l1 := w_lenM declT 3 n.locals
 have l2 := w_lenM equT 7 n.eqs
 have l3 := w_lenM exT 6 n.assume
 have l4 := w_lenM exT 6 n.ensure
 have d0 : (declsT (varsL n)).w = (T.sl 3 ((varsL n).map declT)).w := rfl
 have d1 : (declsT n.locals).w = (T.sl 3 (n.locals.map declT)).w := rfl
 obtain ⟨hs, _, _⟩ := typesX_parts h
 have h2 := shape_nodes (scope_shape hs) n hn
 unfold nodeX at h2
 have h3 : headE p.enums n = 0 := Classical.byContradiction fun hh => by rw [if_pos hh] at h2; exact hh h2
 rw [if_neg (by simp [h3])] at h2
 have h4 : firstE (equE p.enums) n.eqs = 0 := Classical.byContradiction fun hh => by rw [if_pos hh, firstI_snd] at h2; exact hh h2
 refine ⟨by omega, smallK_of hw, fun u hu => ?_, fun e he => ?_, by omega, by omega, by omega, by omega⟩
 ·have h5 := firstE_zero h4 u hu
  have hwu := w_inM (f := equT) (sz := 7) hu
  unfold equE at h5
  have h6 := (orE_zero h5).1
  have hl := left_equ (q := u)
  have hwe := wEx_equ (q := u)
  have hex : (exT u.right).w ≤ (equT u).w := by
   rw [show equT u = .ag (.sl 1 (u.left.map T.s) :: exC u.right) from rfl, w_ag, List.map_cons, List.sum_cons, exT_eq, w_ag]; omega
  refine ⟨fun hh => ?_, by omega, by omega, fun x hx => ?_⟩
  ·rw [hh] at h6; simp at h6
  ·have := flat_name _ u.right (Nat.le_refl _) x hx
   omega
 ·have hle := wEx_le e
  have hwe : (exT e).w ≤ 100000000 := by
   rcases List.mem_append.1 he with he | he
   ·have := w_inM (f := exT) (sz := 6) he; omega
   ·have := w_inM (f := exT) (sz := 6) he; omega
  refine ⟨by omega, fun x hx => ?_⟩
  have := flat_name _ e (Nat.le_refl _) x hx
  omega
theorem clkNods_step {l : List Nod} {k : Nat} (h : k < l.length) : clkNods k (l.drop k) = if (nodeK l[k]).2 = 0 then clkNods (k + 1) (l.drop (k + 1)) else (((k : Int), (nodeK l[k]).1), (nodeK l[k]).2) := by
 rw [List.drop_eq_getElem_cons h, clkNods]
set_option maxHeartbeats 2000000 in
theorem clocksX_sound (p : Prog) (hw : (T.ag (progC p)).w ≤ 100000000) : Pure Tryz.prog 16 [.t (.ag (progC p))] (.tup [.t (.ag [T.i (clocksX p).1.1, T.i (clocksX p).1.2]), .i (clocksX p).2]) := by
 obtain ⟨hP, hln, hpl⟩ := smallP_of hw
 have hml : (p.nodes.map nodT).length = p.nodes.length := List.length_map _
 have hty := typesX_sound p hw
 have hpn := plain_sound p (by omega)
 have hz : clocksX p = clocksX p := rfl
 conv at hz => rhs; unfold clocksX
 generalize clocksX p = z at hz ⊢
 have hnk := fun h n hn => nodK_of (p := p) h hn (hln n hn)
 generalize typesX p = t at *
 obtain ⟨⟨t1, t2⟩, t3⟩ := t
 simp only at hz hty hnk
 have hpc : progC p = [.sl 2 (p.enums.map enT), nodesT p.nodes] := rfl
 rw [hpc] at *
 generalize plainP p = pl at *
 cases pl with
 | false =>
   rw [if_pos rfl] at hz
   subst hz
   refine Sound.of tabOk Tryz.func16 (by kernel_rfl) rfl rfl ?_
   repeat' (first | refine wkt ?_ | refine wk ?_ | exact wkc | intro hc | refine wk2 ?_ ?_ | refine wv hpn ?_ | fail)
   exact wkr
 | true =>
 rw [if_neg (by decide)] at hz
 by_cases h3 : t3 = 0
 ·rw [if_neg (by simp [h3])] at hz
  have hnk := hnk h3
  refine Sound.of tabOk Tryz.func16 (by kernel_rfl) rfl rfl ?_
  repeat' (first | refine wkt ?_ | refine wka ?_ | refine wk ?_ | exact wkc | intro hc | refine wk2 ?_ ?_ | refine wv hpn ?_ | refine wv hty ?_ | fail)
  refine TR.loopN p.nodes.length (fun k => clkNods 0 p.nodes = clkNods k (p.nodes.drop k)) (fun k => [(2, .ref 0 0), (24, .t (nodesT p.nodes)), (25, .i (p.nodes.map nodT).length), (26, .i k)]) (fun _ => [.cells [.i 0, .i 0]]) rfl (fun k hlt ha => ?_) (fun ha => ?_)
  ·have hx := at_nod hlt
   have hmem := List.getElem_mem hlt
   rw [clkNods_step hlt] at ha
   have hs := nodeK_sound p.nodes[k] (hnk _ hmem)
   have hv := vars_sound p.nodes[k] (hP.each _ hmem) (hP.clocks _ hmem)
   generalize nodeK p.nodes[k] = r at *
   obtain ⟨r1, r2⟩ := r
   generalize varsL p.nodes[k] = vars at *
   generalize p.nodes[k] = n at *
   unfold nodC at *
   simp only at ha hs
   repeat' (first | refine wkt ?_ | refine wka ?_ | refine rg [.t (.ag [.s n.name, declsT n.ins, declsT n.outs, declsT n.locals, .sl 7 (n.eqs.map equT), .sl 1 (n.autos.map autoT), .sl 6 (n.assume.map exT), .sl 6 (n.ensure.map exT)]), .t (declsT vars), .t (.ag [declsT vars]), .t (.ag [.s n.name, declsT n.ins, declsT n.outs, declsT n.locals, .sl 7 (n.eqs.map equT), .sl 1 (n.autos.map autoT), .sl 6 (n.assume.map exT), .sl 6 (n.ensure.map exT)]), .tup [.i r1, .i r2], .tup [.i r1, .i r2], .i r1, .i r2, .i r1, .i r2] ?_ ?_ | refine wv hv ?_ | refine wv hs ?_ | exact trivial | exact And.intro rfl rfl | refine And.intro (fun H env => ?_) ?_ | refine wk ?_ | exact wkc | intro hc | refine wk2 ?_ ?_ | fail)
   all_goals first
    | (rw [if_neg (by omega)] at ha; rw [ha] at hz; subst hz; (repeat' (first | refine LoopK.ret ?_ | refine wk ?_ | fail)); exact wkr)
    | (rw [if_pos (by omega)] at ha; exact LoopK.nextC 1 hlt ha rfl rfl rfl rfl rfl)
  ·rw [List.drop_of_length_le (Nat.le_refl _)] at ha
   rw [ha] at hz
   subst hz
   repeat' (first | refine wkt ?_ | refine wk ?_ | exact wkc | intro hc | refine wk2 ?_ ?_ | fail)
   exact wkr
 ·rw [if_pos h3] at hz
  subst hz
  refine Sound.of tabOk Tryz.func16 (by kernel_rfl) rfl rfl ?_
  repeat' (first | refine wkt ?_ | refine wka ?_ | refine wk ?_ | exact wkc | intro hc | refine wk2 ?_ ?_ | refine wv hpn ?_ | refine wv hty ?_ | fail)
  all_goals first
   | exact wkr
   | (exfalso; omega)
end Go.Proofs.YtlocalghkiepmaaGreat
namespace Go.TL
open Go
section rules
variable {P : Program} {n : Nat} {env : Env} {H : Heap} {K : TK} {all : Array Oper} {rest : List Oper} {tab : Tab} {q : Bool} {d : Nat} {ty : TypeId} {pos : String} {aft : Array Edge}
theorem TO.buildSliceM (hT : TabOk P tab) {t e : TypeId} {i ie : TyI} {len sz : Nat} {parts : Array (Nat × Operand)} {ps : List (Nat × SV)} {es : List T} (hd : Nat.ble (d + 1) n = true) (ht : tab.get t = some i) (hk : i.k = .slice e) (he : tab.get e = some ie) (hs : ie.size = sz)
  (hp : env.parts parts.toList = some ps) (hes : elemsOf sz 0 ps = some es) (hlen : Nat.beq len es.length = true) (hsz : ∀ t ∈ es, t.cells.length = sz) (hsm : Nat.ble (len * sz) 16777216 = true) (hpos : Nat.ble 1 sz = true)
  (k : TO false P n all rest ((d, .ms sz H.length 0 len) :: env) (H ++ [.cells ((es.map T.cells).flatten.map .t)]) K) : TO false P n all (⟨some d, .buildSlice t len parts, ty, pos, aft, none⟩ :: rest) env H K :=
 TO.eff hd (fun m ac h1 h2 h3 => by
  subst h1
  have hlen' := Nat.eq_of_beq_eq_true hlen
  have hsm' := Nat.le_of_ble_eq_true hsm
  obtain ⟨e1, e2⟩ := elemsOf_get hes
  obtain ⟨p1, p2⟩ := h3.parts parts.toList ps hp
  obtain ⟨z, hz1, hz2, _, _⟩ := (hT e ie he).zero
  have hzl : z.cells.size = sz := by
   have := (zero_rel (A := m.A) (w := m.w) _ _ hz2).1
   have h2 := (hT e ie he).len
   simp at this; omega
  have hval : ∀ (i : Nat) p, (parts.toList.map fun x => (x.1, ac.eval x.2))[i]? = some p → ∃ t, es[i]? = some t ∧ p.1 = 0 + i ∧ p.2.cells.size = sz ∧ (∀ (j : Nat) y, p.2.cells[j]? = some y → y.oneCell' = true) ∧ ∀ (j : Nat) c y, t.cells[j]? = some c → p.2.cells[j]? = some y → TRel m.A m.w c y := by
   intro i p hpi
   have hi := (List.getElem?_eq_some_iff.1 hpi).1
   have hps : ps[i]? = some (ps[i]'(by omega)) := List.getElem?_eq_getElem _
   obtain ⟨t, q1, q2, q3, q4, q5⟩ := e2 i _ hps
   obtain ⟨r1, r2⟩ := p2 i _ p hps hpi
   obtain ⟨c1, c2, c3⟩ := (r2.toT q3).cells q5
   exact ⟨t, q1, by rw [← r1]; exact q2, by rw [c1]; exact hsz t (List.mem_of_getElem? q1), c2, c3⟩
  obtain ⟨z0, hz0⟩ : ∃ z0 : Array Value, z0 = if len * sz = 0 then #[] else z.cells := ⟨_, rfl⟩
  obtain ⟨arr, g1, g2, _, g4⟩ := fill_seq (sz := sz) (fun i => some (i * sz, sz)) (fun _ => rfl) (parts.toList.map fun x => (x.1, ac.eval x.2)) 0 ((Array.range (len * sz)).map (fun j => z0[j % z0.size]!)) (fun i p hpi => by
   obtain ⟨t, _, h5, h6, _⟩ := hval i p hpi
   exact ⟨h5, h6⟩) (by
   simp
   have h1 : parts.size = len := by simp at p1; omega
   rw [h1]; exact Nat.le_refl _)
  have g2' : arr.size = len * sz := by rw [g2]; simp
  have hp' := Nat.le_of_ble_eq_true hpos
  obtain ⟨l1, l2⟩ := flat_cells es hsz
  have hpl : parts.size = len := by simp at p1; omega
  have split : ∀ q, q < len * sz → ∃ i j t p, q = i * sz + j ∧ j < sz ∧ es[i]? = some t ∧ (parts.toList.map fun x => (x.1, ac.eval x.2))[i]? = some p ∧ arr[q]? = p.2.cells[j]? ∧ (∀ (j : Nat) y, p.2.cells[j]? = some y → y.oneCell' = true) ∧ ∀ (j : Nat) c y, t.cells[j]? = some c → p.2.cells[j]? = some y → TRel m.A m.w c y := by
   intro q hq
   have hj : q % sz < sz := Nat.mod_lt _ hp'
   have hqs : q = q / sz * sz + q % sz := by rw [Nat.mul_comm]; exact (Nat.div_add_mod q sz).symm
   have hi : q / sz < len := Nat.div_lt_of_lt_mul (by rw [Nat.mul_comm]; exact hq)
   obtain ⟨p, hpi⟩ : ∃ p, (parts.toList.map fun x => (x.1, ac.eval x.2))[q / sz]? = some p := ⟨_, List.getElem?_eq_getElem (by simp; omega)⟩
   obtain ⟨t, h4, _, _, h7, h8⟩ := hval _ p hpi
   have := g4 _ p hpi _ hj
   rw [Nat.zero_add, ← hqs] at this
   exact ⟨_, _, t, p, hqs, hj, h4, hpi, this, h7, h8⟩
  obtain ⟨s, hm'⟩ := grow_cells h2 ((es.map T.cells).flatten.map .t) arr e (by rw [List.length_map, l1, g2']; exact Nat.mul_le_mul_right _ (by omega)) (fun q y hy => by
   have hq := (Array.getElem?_eq_some_iff.1 hy).1
   obtain ⟨i, j, t, p, _, _, _, _, h5, h7, _⟩ := split q (by omega)
   exact h7 j y (by rw [← h5]; exact hy)) (fun q c y hc hy => by
   have hq := (Array.getElem?_eq_some_iff.1 hy).1
   obtain ⟨i, j, t, p, hqs, hj, h4, _, h5, _, h8⟩ := split q (by omega)
   have htl := hsz t (List.mem_of_getElem? h4)
   have hcc : t.cells[j]? = some (t.cells[j]'(by omega)) := List.getElem?_eq_getElem _
   have := l2 i j t _ h4 hcc
   rw [← hqs] at this
   rw [List.getElem?_map, this] at hc
   cases hc
   exact .t _ _ (h8 j _ y hcc (by rw [← h5]; exact hy)))
  refine ⟨.slice (some ⟨m.w.heap.size, 0, none⟩) len len, ⟨m.A, m.β ++ [⟨m.w.heap.size, 0, arr.size⟩], m.H ++ [.cells ((es.map T.cells).flatten.map .t)], m.w.alloc (.cells arr e)⟩, ?_, s, hm', rfl, ?_⟩
  ·have hrun : (Instr.buildSlice t len (parts.map fun (i, x) => (i, ac.eval x))).run P m.w = .ok (.slice (some ⟨m.w.heap.size, 0, none⟩) len len) (m.w.alloc (.cells arr e)) := by
    have hbig : ¬ len * sz > 2 ^ 24 := by omega
    have hfl : (parts.map fun (x : Nat × Operand) => (x.1, ac.eval x.2)).toList = parts.toList.map fun x => (x.1, ac.eval x.2) := by simp
    unfold Instr.buildSlice
    by_cases h0 : len * sz = 0
    ·simp only [h0, if_true] at hz0
     subst hz0
     simp only [Sem.run_bind, underlying, run_program, Result.andThen_ok, (hT t i ht).slice hk, Sem.run_pure, (hT e ie he).sizeOf, hs, if_neg hbig, if_pos h0]
     rw [h0] at g1 ⊢
     rw [hfl, g1]
     simp [newRow]
    ·simp only [if_neg h0] at hz0
     subst hz0
     simp only [Sem.run_bind, underlying, run_program, Result.andThen_ok, (hT t i ht).slice hk, Sem.run_pure, (hT e ie he).sizeOf, hs, if_neg hbig, if_neg h0, hz1]
     rw [hfl, g1]
     simp [newRow]
   simp only [execOp, Sem.run_bind, hrun]; rfl
  ·refine .ms sz m.H.length 0 len len ⟨m.w.heap.size, 0, arr.size⟩ (by simp [h2.len]) (by intro q; simp [tlOf]) (Nat.le_refl _) ?_
   show 0 + 0 + len * sz = arr.size
   omega) k
theorem TO.freezeC {ops : List Oper} (bid j0 sz id len : Nat) {bs : List SV} {cs : List SV} {es : List T} {H' : Heap} (hne : Nat.beq bid id = false) (hB : H[bid]? = some (.cells bs)) (hj0 : bs[j0]? = some (.ms sz id 0 len)) (hH : H[id]? = some (.cells cs)) (hcl : es.length * sz ≤ cs.length) (hcs : ∀ (j : Nat) c, ((es.map T.cells).flatten.map SV.t)[j]? = some c → cs[j]? = some c) (hlen : len = es.length) (hsz : ∀ e ∈ es, e.cells.length = sz)
  (hpos : Nat.ble 1 sz = true) (hH' : (H.set id .dead).set bid (.cells (bs.set j0 (.t (.sl sz es)))) = H') (k : TO false P n all ops env H' K) : TO false P n all ops env H K := by
 intro φ m a h1 h2 h3 h4
 have hp' := Nat.le_of_ble_eq_true hpos
 subst hlen
 have hne' : bid ≠ id := fun h => by subst h; simp at hne
 have hB1 : m.H[bid]? = some (.cells bs) := by rw [h1]; exact hB
 obtain ⟨pb, hpb⟩ : ∃ pb, m.β[bid]? = some pb := ⟨_, List.getElem?_eq_getElem (by have := (List.getElem?_eq_some_iff.1 hB1).1; have := h2.len; omega)⟩
 obtain ⟨w1, w2, w3⟩ := h2.blk bid pb _ hpb hB1
 obtain ⟨x, hx1, hx0, hx2⟩ := w3 j0 _ hj0
 obtain ⟨l1, l2⟩ := flat_cells es hsz
 cases hx2 with
 | ms _ _ _ _ cap p hp hn hc hh =>
   have hH1 : m.H[id]? = some (.cells cs) := by rw [h1]; exact hH
   obtain ⟨b1, b2, b3⟩ := h2.blk id p _ hp hH1
   have hex : ∀ j, ∃ y, j < cs.length → m.w.cell? ⟨p.b, p.lo + j, none⟩ = some y ∧ y.oneCell' = true ∧ ∀ c, cs[j]? = some c → SRel m c y := by
    intro j
    by_cases hj : j < cs.length
    ·obtain ⟨y, hy1, hy0, hy2⟩ := b3 j cs[j] (List.getElem?_eq_getElem hj)
     exact ⟨y, fun _ => ⟨hy1, hy0, fun c hc => by rw [List.getElem?_eq_getElem hj] at hc; cases hc; exact hy2⟩⟩
    ·exact ⟨undef, fun h => absurd h hj⟩
   let f : Nat → Value := fun j => Classical.choose (hex j)
   have hf := fun j => Classical.choose_spec (hex j)
   obtain ⟨s, hm'⟩ := mv_step h2 (k1 := .dead) (p' := p) (A' := fun b o => m.A b o ∨ (b = p.b ∧ p.lo ≤ o ∧ o < p.lo + cs.length)) (w' := m.w) hp hH1 rfl rfl rfl rfl (Nat.le_refl _) (fun _ _ _ _ => rfl) (fun _ _ _ _ _ => rfl) (fun _ _ _ => rfl) (fun _ _ _ h => h) (fun _ _ h => h)
    (fun _ _ h => .inl h) (fun b o h => by
      rcases h with h | h
      ·exact .inl h
      ·exact .inr (.inl (by omega))) (fun h => by cases h) (fun h => by cases h) (fun o q1 q2 => (b2 o q1 q2).1) ⟨rfl, fun n' => by simp [tlOf]⟩ (fun _ => trivial)
   have hlt : ∀ q j, q < es.length → j < sz → q * sz + j < cs.length := fun q j hq hj => by
    have := Nat.mul_le_mul_right sz (show q + 1 ≤ es.length from hq)
    rw [Nat.succ_mul] at this
    omega
   have hr : SRel ⟨fun b o => m.A b o ∨ (b = p.b ∧ p.lo ≤ o ∧ o < p.lo + cs.length), m.β.set id p, m.H.set id .dead, m.w⟩ (.t (.sl sz es)) (.slice (some ⟨p.b, p.lo + 0, none⟩) es.length cap) := by
    refine .t _ _ (.sl sz es p.b (p.lo + 0) cap f hc (fun j e he => hsz e (List.mem_of_getElem? he)) (fun q j hq hj => .inr ⟨rfl, by omega, by have := hlt q j hq hj; omega⟩) (fun q j hq hj => (hf _ (hlt q j hq hj)).1) (fun q j hq hj => (hf _ (hlt q j hq hj)).2.1) (fun q e j c he hc' => ?_))
    have hq := (List.getElem?_eq_some_iff.1 he).1
    have hj := (List.getElem?_eq_some_iff.1 hc').1
    rw [hsz e (List.mem_of_getElem? he)] at hj
    have hcc : cs[q * sz + j]? = some (.t c) := hcs _ _ (by rw [List.getElem?_map, l2 q j e c he hc']; rfl)
    have := (hf _ (hlt q j hq hj)).2.2 _ hcc
    cases this with
    | t _ _ h => exact s.trel h2 h
   have hB2 : (m.H.set id .dead)[bid]? = some (.cells bs) := by rw [List.getElem?_set_ne (fun h => hne' h.symm)]; exact hB1
   have hpb2 : (m.β.set id p)[bid]? = some pb := by rw [List.getElem?_set_ne (fun h => hne' h.symm)]; exact hpb
   have hjl := (List.getElem?_eq_some_iff.1 hj0).1
   obtain ⟨s2, hm2⟩ := upd hm' (cs' := bs.set j0 (.t (.sl sz es))) (w' := m.w) hpb2 hB2 rfl rfl rfl rfl (fun _ _ => rfl) (fun _ _ => rfl) (fun _ => rfl) (fun _ => rfl) (fun _ h => h) (by rw [List.length_set]; exact w1) (by omega) (fun j c hc => by
    by_cases hj : j = j0
    ·subst hj
     rw [List.getElem?_set_self hjl] at hc
     cases hc
     exact ⟨_, hx1, hx0, hr⟩
    ·rw [List.getElem?_set_ne (fun h => hj h.symm)] at hc
     obtain ⟨y, y1, y2, y3⟩ := w3 j c hc
     exact ⟨y, y1, y2, s.srel h2 y3⟩)
   have st := s.trans s2
   exact TO.step' (m' := ⟨fun b o => m.A b o ∨ (b = p.b ∧ p.lo ≤ o ∧ o < p.lo + cs.length), m.β.set id p, (m.H.set id .dead).set bid (.cells (bs.set j0 (.t (.sl sz es)))), m.w⟩) st (k φ ⟨fun b o => m.A b o ∨ (b = p.b ∧ p.lo ≤ o ∧ o < p.lo + cs.length), m.β.set id p, (m.H.set id .dead).set bid (.cells (bs.set j0 (.t (.sl sz es)))), m.w⟩ a (by show _ = H'; rw [← hH', h1]) hm2 (h3.step h2 st) (h4.step h2 st))
end rules
end Go.TL
namespace Go.Proofs.YtlocalghkiepmaaGreat
open Go Go.TL
attribute [local irreducible] TR TO Then InBlock RetK Sound LoopK Kf GG ThenL
theorem var12_sound (s : Str) : Pure Tryz.prog 46 [.s s] (.t (.ag [T.i 2, T.i 0, T.i 0, T.i 0, T.s s, .sl 6 []])) := by
 refine Sound.of tabOk Tryz.func46 (by kernel_rfl) rfl rfl ?_
 repeat' (first | refine wkt ?_ | refine wk ?_ | exact wkc | intro hc | refine wk2 ?_ ?_ | fail | fail)
 refine RetK.pure rfl (Le.treeS rfl ?_) rfl
 repeat' (first | exact trivial | exact TLs.refl _ | exact TLs.nil _ | refine TLs.agL ?_ | refine TLs.slL ?_ | refine And.intro ?_ ?_ | fail)
abbrev vT (c : UInt8) : T := .ag [T.i 2, T.i 0, T.i 0, T.i 0, T.s [c], .sl 6 []]
abbrev ndT (c : UInt8) : T := .ag [T.s [102], .sl 3 [.ag [T.s [99], T.i 1, .sl 3 []], .ag [T.s [97], T.i 2, .sl 3 []]], .sl 3 [.ag [T.s [120], T.i 2, .sl 3 []]],
 .sl 3 [.ag [T.s [121], T.i 2, .sl 3 [.ag [T.s [99], T.i 1, T.i 1]]], .ag [T.s [122], T.i 2, .sl 3 [.ag [T.s [99], T.i 1, T.i 0]]]],
 .sl 7 [.ag [.sl 1 [T.s [121]], T.i 8, T.i 0, T.i 1, T.i 1, T.s [99], .sl 6 [vT 97]], .ag [.sl 1 [T.s [122]], T.i 1, T.i 0, T.i 2, T.i 0, T.s [], .sl 6 []], .ag [.sl 1 [T.s [120]], T.i 9, T.i 0, T.i 1, T.i 0, T.s [99], .sl 6 [vT 122, vT c]]], .sl 1 [], .sl 6 [], .sl 6 []]
theorem kP_T (b : Bool) : T.ag (progC (kP b)) = .ag [.sl 2 [], .sl 8 [ndT (if b = true then 97 else 121)]] := by
 have hA : exT kA = vT 97 := by rw [exT_eq]; rfl
 have hY : exT kY = vT 121 := by rw [exT_eq]; rfl
 have hZ : exT kZ = vT 122 := by rw [exT_eq]; rfl
 cases b <;> simp [progC, kP, nodesT, nodT, kN, equT, exC, kWhen, kConst, kMerge, Ex.kind, Ex.op, Ex.t, Ex.v, Ex.name, Ex.args, declT, onT, hA, hY, hZ, i64]
theorem example_sound (b : Bool) : Pure Tryz.prog 45 [.b b] (.t (.ag (progC (kP b)))) := by
 have v1 := var12_sound [97]
 have v2 := var12_sound [121]
 have v3 := var12_sound [122]
 rw [kP_T]
 cases b
 ·refine Sound.of tabOk Tryz.func45 (by kernel_rfl) rfl rfl ?_
  refine wk ?_
  repeat' (first | refine wkt ?_ | refine wka ?_ | refine wv v1 ?_ | fail)
  refine wv v3 ?_
  refine wv v2 ?_
  refine wkt ?_
  refine wkt ?_
  repeat' (first | refine wk ?_ | exact wkc | intro hc | refine wk2 ?_ ?_ | fail)
  refine RetK.pure rfl (Le.treeS rfl ?_) rfl
  repeat' (first | exact trivial | exact TLs.refl _ | exact TLs.nil _ | refine TLs.agL ?_ | refine TLs.slL ?_ | refine And.intro ?_ ?_ | fail)
 ·refine Sound.of tabOk Tryz.func45 (by kernel_rfl) rfl rfl ?_
  refine wk ?_
  repeat' (first | refine wkt ?_ | refine wka ?_ | refine wv v1 ?_ | fail)
  refine wv v3 ?_
  refine wv v2 ?_
  apply TO.buildSliceM tabOk; iterate 8 exact rfl
  ·intro t ht
   simp at ht
   rcases ht with rfl | rfl <;> rfl
  ·exact rfl
  ·exact rfl
  repeat' (first | refine wkt ?_ | (apply TO.alloc tabOk; (iterate 3 exact rfl)) | (apply TO.store tabOk; (iterate 6 exact rfl); exact Nat.le_of_ble_eq_true rfl; exact rfl; exact Nat.le_of_ble_eq_true rfl; exact rfl) | exact wkc | intro hc | refine wk2 ?_ ?_ | fail)
  refine TR.regionM (envF := ?envF) (HF := [.cells [nilS, nilS], .cells [.i 2, .i 0, .i 0, .i 0, .s [122], .t (.sl 6 []), .i 2, .i 0, .i 0, .i 0, .s [97], .t (.sl 6 [])], .cells [.i 9, .i 0, .i 1, .i 0, .s [99], .ms 6 1 0 2]]) [(.ref 2 5, false), (.ms 6 1 0 2, true), (.t (vT 97), false), (.ref 1 6, false), (.any, true)] [[.cells [nilS, nilS], .cells [.i 2, .i 0, .i 0, .i 0, .s [122], .t (.sl 6 []), .i 2, .i 0, .i 0, .i 0, .s [121], .t (.sl 6 [])], .cells [.i 9, .i 0, .i 1, .i 0, .s [99], .ms 6 1 0 2]], [.cells [nilS, nilS], .cells [.i 2, .i 0, .i 0, .i 0, .s [122], .t (.sl 6 []), .i 2, .i 0, .i 0, .i 0, .s [121], .t (.sl 6 [])], .cells [.i 9, .i 0, .i 1, .i 0, .s [99], .ms 6 1 0 2]], [.cells [nilS, nilS], .cells [.i 2, .i 0, .i 0, .i 0, .s [122], .t (.sl 6 []), .i 2, .i 0, .i 0, .i 0, .s [97], .t (.sl 6 [])], .cells [.i 9, .i 0, .i 1, .i 0, .s [99], .ms 6 1 0 2]]] hmix ?hB ?h0 ?hp ?hF ?hE ?hK
  case hB => (dsimp only [List.map]; decide +kernel)
  case h0 => exact rfl
  case hF => exact rfl
  case hE => exact rfl
  case hp =>
   repeat' (first | refine wkt ?_ | refine wv v1 ?_ | (apply TO.indexAddr_ms tabOk; (iterate 7 exact rfl); decide; decide) | exact trivial | exact And.intro rfl rfl | refine And.intro (fun H env => ?_) ?_ | refine And.intro (fun env => ?_) ?_ | refine wk ?_ | fail)
   done
  case hK =>
   refine wkt ?_
   refine TO.freezeC 2 5 6 1 2 (es := [vT 122, vT 97]) rfl rfl rfl rfl (by decide) (fun j c hj => hj) rfl ?_ rfl rfl ?_
   ·intro e he
    simp at he
    rcases he with rfl | rfl <;> rfl
   repeat' (first | refine wk ?_ | exact wkc | intro hc | refine wk2 ?_ ?_ | fail)
   refine RetK.pure rfl (Le.treeS rfl ?_) rfl
   repeat' (first | exact trivial | exact TLs.refl _ | exact TLs.nil _ | refine TLs.agL ?_ | refine TLs.slL ?_ | refine And.intro ?_ ?_ | fail)
theorem kP_w (b : Bool) : (T.ag (progC (kP b))).w ≤ 100000000 := by
 rw [kP_T]
 cases b <;> (simp [w_ag, w_sl, T.w]; decide +kernel)
theorem awake12_sound : Pure Tryz.prog 15 [] (.b true) := by
 have x0 := example_sound false
 have x1 := example_sound true
 have c0 := clocksX_sound (kP false) (kP_w false)
 have c1 := clocksX_sound (kP true) (kP_w true)
 rw [kclocks.1] at c0
 rw [kclocks.2] at c1
 obtain ⟨hP, hln, _⟩ := smallP_of (kP_w false)
 have c2 := clkP_sound (kP false) hP (i64 0) [121]
 rw [kof] at c2
 have hq : ∀ n ∈ (kP false).nodes, ∀ d ∈ varsL n, SmallK d.clock := fun n hn => smallK_of (hln n hn)
 have hk : SmallK kCk := ⟨by decide, fun o ho => by simp at ho; subst ho; decide⟩
 have hw : wEx kY ≤ 1000000000 := by rw [show wEx kY = 1 from wEx_leaf _ _ _ _ _]; decide
 have hn : ∀ x ∈ flat kY, x.name.length ≤ 1000000000 := fun x hx => by
  rw [show flat kY = [kY] from flat_leaf _ _ _ _ _] at hx
  simp at hx; subst hx; decide
 have c3 := fitsP_sound (kP false) hP hq (i64 0) kY hw hn kCk hk
 have c4 := fitsP_sound (kP false) hP hq (i64 0) kY hw hn [] SmallK.nil
 rw [kfits.1] at c3
 rw [kfits.2] at c4
 have c5 := within_sound kCk [] hk SmallK.nil
 have c6 := sameK_sound kCk [] hk SmallK.nil
 rw [within_nil] at c5
 rw [show decide (kCk = []) = false from rfl] at c6
 have v := var12_sound [121]
 rw [show exC kY = [T.i 2, T.i 0, T.i 0, T.i 0, T.s [121], .sl 6 []] from rfl] at c3 c4
 dsimp only at c0 c1 c2 c3 c4
 rw [show progC (kP false) = [.sl 2 [], nodesT (kP false).nodes] from rfl] at x0 c0 c2 c3 c4
 rw [show progC (kP true) = [.sl 2 [], nodesT (kP true).nodes] from rfl] at x1 c1
 generalize nodesT (kP false).nodes = n0 at *
 generalize nodesT (kP true).nodes = n1 at *
 clear hP hln hq hn
 refine Sound.of tabOk Tryz.func15 (by kernel_rfl) rfl rfl ?_
 repeat' (first | refine wEqW ?_ | refine wkt ?_ | refine wka ?_ | refine wv x0 ?_ | refine wv x1 ?_ | refine wv c0 ?_ | refine wv c1 ?_ | refine wv c2 ?_ | refine wv v ?_ | refine wv c3 ?_ | refine wv c4 ?_ | refine wv c5 ?_ | refine wv c6 ?_ | refine wk ?_ | exact wkc | intro hc | refine wk2 ?_ ?_ | fail)
 exact wkr
end Go.Proofs.YtlocalghkiepmaaGreat
