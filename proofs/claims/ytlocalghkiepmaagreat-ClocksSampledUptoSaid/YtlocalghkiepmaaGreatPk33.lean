import Derived.Test.YtlocalghkiepmaaGreatPk14
import Derived.Test.YtlocalghkiepmaaGreatPk19
import Derived.Test.YtlocalghkiepmaaGreatPk23
import Derived.Test.YtlocalghkiepmaaGreatPk32
set_option linter.unusedSimpArgs false
set_option linter.unusedVariables false
namespace Go.Proofs.YtlocalghkiepmaaGreat
open Go Go.TL
attribute [local irreducible] TR TO Then InBlock RetK Sound LoopK Kf GG ThenL
theorem typesX_parts {p : Prog} (h : (typesX p).2 = 0) : (scopeX p).2 = 0 ∧ (shapeX p).2 = 0 ∧ (tyNods p p.nodes.zipIdx).2 = 0 := by
 have hs : (scopeX p).2 = 0 := Classical.byContradiction fun hh => by
  unfold typesX at h
  rw [if_pos hh] at h; exact hh h
 refine ⟨hs, Classical.byContradiction fun hh => ?_, ?_⟩
 ·unfold scopeX at hs
  rw [if_pos hh] at hs; exact hh hs
 ·unfold typesX at h
  rw [if_neg (by simp [hs])] at h; exact h
theorem clkNods_zero : ∀ {l : List Nod} {i : Nat}, (clkNods i l).2 = 0 → ∀ n ∈ l, (nodeK n).2 = 0
 | [], _, _, n, hn => by cases hn
 | x :: l, i, h, n, hn => by
   rw [clkNods] at h
   have h1 : (nodeK x).2 = 0 := Classical.byContradiction fun hh => by rw [if_neg hh] at h; exact hh h
   rw [if_pos h1] at h
   rcases List.mem_cons.1 hn with rfl | hn
   ·exact h1
   ·exact clkNods_zero h n hn
theorem clocks_ok {p : Prog} (h : (clocksX p).2 = 0) : plainP p = true ∧ (typesX p).2 = 0 ∧ ∀ n ∈ p.nodes, (nodeK n).2 = 0 := by
 unfold clocksX at h
 have h1 : plainP p = true := by
  cases hp : plainP p with
  | true => rfl
  | false => rw [hp] at h; simp at h
 rw [if_neg (by simp [h1])] at h
 have h2 : (typesX p).2 = 0 := Classical.byContradiction fun hh => by rw [if_pos hh] at h; exact hh h
 rw [if_neg (by simp [h2])] at h
 exact ⟨h1, h2, clkNods_zero h⟩
theorem nodeK_ok {n : Nod} (h : (nodeK n).2 = 0) : declsOk (varsL n) n.locals = true ∧ (∀ u ∈ n.eqs, eqClk (varsL n) u = 0) ∧ (∀ e ∈ n.assume ++ n.ensure, fitsX (varsL n) e [] = 0) := by
 unfold nodeK at h
 have h1 : declsOk (varsL n) n.locals = true := by
  cases hd : declsOk (varsL n) n.locals with
  | true => rfl
  | false => rw [hd] at h; simp at h
 rw [if_neg (by simp [h1])] at h
 have h2 : firstE (eqClk (varsL n)) n.eqs = 0 := Classical.byContradiction fun hh => by
  rw [if_pos hh, firstI_snd] at h; exact hh h
 rw [if_neg (by simp [h2])] at h
 have h3 : firstE (fun e => fitsX (varsL n) e []) (n.assume ++ n.ensure) = 0 := Classical.byContradiction fun hh => by rw [if_pos hh] at h; exact hh h
 exact ⟨h1, firstE_zero h2, firstE_zero h3⟩
structure ShapeN (es : List En) (n : Nod) : Prop where
 ports : ∀ d ∈ n.ins ++ n.outs, d.clock = []
 locals : ∀ d ∈ n.locals, d.clock.length ≤ 4
 eqs : ∀ u ∈ n.eqs, u.left ≠ [] ∧ exprX es u.right = 0
theorem declE_ok {es : List En} {port : Bool} {d : Decl} (h : declE es port d = 0) : (port = true → d.clock = []) ∧ d.clock.length ≤ 4 := by
 unfold declE at h
 obtain ⟨_, h⟩ := orE_zero h
 obtain ⟨_, h⟩ := orE_zero h
 obtain ⟨h1, h⟩ := orE_zero h
 obtain ⟨h2, _⟩ := orE_zero h
 refine ⟨fun hp => ?_, ?_⟩
 ·by_cases hc : d.clock.length = 0
  ·exact List.eq_nil_of_length_eq_zero hc
  ·rw [if_pos ⟨hp, hc⟩] at h1; cases h1
 ·by_cases hc : d.clock.length ≤ 4
  ·exact hc
  ·rw [if_neg hc] at h2; cases h2
theorem shapeN_of {p : Prog} (h : (shapeX p).2 = 0) : ∀ n ∈ p.nodes, ShapeN p.enums n := fun n hn => by
 have h1 := shape_nodes h n hn
 unfold nodeX at h1
 have hh : headE p.enums n = 0 := Classical.byContradiction fun hc => by rw [if_pos hc] at h1; exact hc h1
 rw [if_neg (by simp [hh])] at h1
 have he : firstE (equE p.enums) n.eqs = 0 := Classical.byContradiction fun hc => by rw [if_pos hc, firstI_snd] at h1; exact hc h1
 unfold headE at hh
 obtain ⟨_, hh⟩ := orE_zero hh
 obtain ⟨_, hh⟩ := orE_zero hh
 obtain ⟨_, hh⟩ := orE_zero hh
 obtain ⟨i1, hh⟩ := orE_zero hh
 obtain ⟨i2, i3⟩ := orE_zero hh
 refine ⟨fun d hd => ?_, fun d hd => (declE_ok (firstE_zero i3 d hd)).2, fun u hu => ?_⟩
 ·rcases List.mem_append.1 hd with hd | hd
  ·exact (declE_ok (firstE_zero i1 d hd)).1 rfl
  ·exact (declE_ok (firstE_zero i2 d hd)).1 rfl
 ·have h2 := firstE_zero he u hu
  refine ⟨fun hc => ?_, equE_ex h2⟩
  unfold equE at h2
  obtain ⟨h3, _⟩ := orE_zero h2
  rw [hc] at h3; simp at h3
theorem clk_len {es : List En} {n : Nod} (h : ShapeN es n) : ∀ d ∈ varsL n, d.clock.length ≤ 4 := fun d hd => by
 simp only [varsL, List.append_nil, List.mem_append] at hd
 rcases hd with hd | hd | hd
 ·rw [h.ports d (by simp [hd])]; simp
 ·rw [h.ports d (by simp [hd])]; simp
 ·exact h.locals d hd
theorem kind_known {w : Plc} {z : Ex} {b : Bool} (h : (resT w b z).2 = 0) (hv : z.kind.1 = 2 ∨ z.kind.1 = 8 ∨ z.kind.1 = 9) : (findD w.env z.name).isSome = true := by
 rw [(findD_look w.env z.name).1]
 rw [resT_eq] at h
 have h0 : ¬ (heads (z.args.map (resT w true))).2 ≠ 0 := fun hh => by rw [if_pos hh] at h; exact hh h
 rw [if_neg h0] at h
 unfold kindT at h
 rw [if_neg (by omega), if_neg (by omega)] at h
 rcases hv with hv | hv
 ·rw [if_pos hv] at h
  cases hl : (lookT w.env z.name).2 with
  | true => rfl
  | false => rw [hl] at h; simp at h
 ·rw [if_neg (by omega), if_neg (by omega), if_neg (by omega), if_neg (by omega), if_pos hv] at h
  have hc : ¬ clockT w.env z.name z.t.1 ≠ 0 := fun hh => by rw [if_pos hh] at h; exact hh h
  unfold clockT at hc
  cases hl : (lookT w.env z.name).2 with
  | true => rfl
  | false => rw [hl] at hc; simp at hc
theorem known_of {w : Plc} {e : Ex} {b : Bool} (h : (resT w b e).2 = 0) : KnownN w.env e := fun z hz hv => by
 rcases sub_resT _ e (Nat.le_refl _) b h z hz with rfl | h2
 ·exact kind_known h hv
 ·exact kind_known h2 hv
theorem nI_val {k : Nat} (h : (k : Int) ≤ 9223372036854775807) : (nI k).1 = k := by unfold nI; rw [dif_pos h]
theorem eq_known {p : Prog} (h : (typesX p).2 = 0) {k : Nat} (hk : k < p.nodes.length) (hk63 : (k : Int) ≤ 9223372036854775807) {u : Equ} (hu : u ∈ p.nodes[k].eqs) : KnownN (varsL p.nodes[k]) u.right ∧ exprX p.enums u.right = 0 := by
 have h1 := (rights h hk hk63 hu).1
 have hnv := nI_val hk63
 rw [ofT_some (n := p.nodes[k]) (by omega) (by rw [hnv, Int.toNat_natCast]; exact List.getElem?_eq_getElem hk)] at h1
 have hx : exprX p.enums u.right = 0 := Classical.byContradiction fun hh => by rw [if_pos hh] at h1; exact hh h1
 rw [if_neg (by simp [hx])] at h1
 exact ⟨known_of h1, hx⟩
theorem fitsP_in {p : Prog} {k : Nat} (hk : k < p.nodes.length) (hk63 : (k : Int) ≤ 9223372036854775807) {e : Ex} {ck : List OnC} (hx : exprX p.enums e = 0) (hn : KnownN (varsL p.nodes[k]) e) (hc : ck.length ≤ 4) : fitsP p (nI k) e ck = fitsX (varsL p.nodes[k]) e ck := by
 have hnv := nI_val hk63
 unfold fitsP
 rw [if_neg (by omega), if_neg (by simp [hx]), hnv, Int.toNat_natCast, List.getElem?_eq_getElem hk]
 simp only []
 rw [(known_iff _ _).1 hn, if_neg (by simp), if_neg (by omega)]
theorem clkP_in {p : Prog} {k : Nat} (hk : k < p.nodes.length) (hk63 : (k : Int) ≤ 9223372036854775807) {nm : Str} {d : Decl} (h : findD (varsL p.nodes[k]) nm = some d) : clkP p (nI k) nm = (d.clock, 0) := by
 have hnv := nI_val hk63
 unfold clkP
 rw [if_neg (by omega), hnv, Int.toNat_natCast, List.getElem?_eq_getElem hk]
 simp only [h]
theorem clkOk_at {vars : List Decl} : ∀ {l pre : List OnC}, clkOk vars pre l = true → ∀ (j : Nat) (hj : j < l.length), ∃ x, findD vars l[j].name = some x ∧ x.clock = pre ++ l.take j
 | [], _, _, j, hj => by simp at hj
 | o :: l, pre, h, j, hj => by
   rw [clkOk, Bool.and_eq_true] at h
   obtain ⟨h1, h2⟩ := h
   cases j with
   | zero =>
     cases hf : findD vars o.name with
     | none => rw [hf] at h1; cases h1
     | some x =>
       rw [hf] at h1
       simp only [Bool.and_eq_true, decide_eq_true_eq] at h1
       exact ⟨x, hf, by rw [h1.2]; simp⟩
   | succ j =>
     obtain ⟨x, g1, g2⟩ := clkOk_at h2 j (by simpa using hj)
     exact ⟨x, g1, by rw [g2]; simp⟩
theorem right_law {p : Prog} (h : (clocksX p).2 = 0) {k : Nat} (hk : k < p.nodes.length) (hk63 : (k : Int) ≤ 9223372036854775807) :
  (∀ u ∈ p.nodes[k].eqs, ∀ s ∈ u.left, ∃ ck, clkP p (nI k) s = (ck, 0) ∧ fitsP p (nI k) u.right ck = 0) ∧
  (∀ d ∈ varsL p.nodes[k], ∀ (j : Nat) (hj : j < d.clock.length), clkP p (nI k) d.clock[j].name = (d.clock.take j, 0)) := by
 obtain ⟨h1, h2, h3⟩ := clocks_ok h
 obtain ⟨_, hsh, _⟩ := typesX_parts h2
 have hN := shapeN_of hsh _ (List.getElem_mem hk)
 obtain ⟨k1, k2, k3⟩ := nodeK_ok (h3 _ (List.getElem_mem hk))
 constructor
 ·intro u hu s hs
  have he := k2 u hu
  unfold eqClk at he
  have hall : u.left.all (fun s => onX (varsL p.nodes[k]) s (dclk (varsL p.nodes[k]) (u.left.headD []))) = true := by
   cases hq : u.left.all (fun s => onX (varsL p.nodes[k]) s (dclk (varsL p.nodes[k]) (u.left.headD []))) with
   | true => rfl
   | false => rw [hq] at he; simp at he
  rw [if_pos hall] at he
  have hon := List.all_eq_true.1 hall s hs
  obtain ⟨kn, hx⟩ := eq_known h2 hk hk63 hu
  unfold onX at hon
  cases hf : findD (varsL p.nodes[k]) s with
  | none => rw [hf] at hon; cases hon
  | some d =>
    rw [hf] at hon
    simp only [decide_eq_true_eq] at hon
    refine ⟨d.clock, clkP_in hk hk63 hf, ?_⟩
    rw [fitsP_in hk hk63 hx kn (clk_len hN d (findD_mem hf).1), hon]
    exact he
 ·intro d hd j hj
  have hl : d ∈ p.nodes[k].locals := by
   simp only [varsL, List.append_nil, List.mem_append] at hd
   rcases hd with hd | hd | hd
   ·have := hN.ports d (by simp [hd]); rw [this] at hj; simp at hj
   ·have := hN.ports d (by simp [hd]); rw [this] at hj; simp at hj
   ·exact hd
  obtain ⟨x, g1, g2⟩ := clkOk_at (List.all_eq_true.1 k1 d hl) j hj
  rw [clkP_in hk hk63 g1, g2]; rfl
def whenX (c : Str) (e : Ex) : Ex := .mk ⟨8, by decide⟩ ⟨0, by decide⟩ ⟨1, by decide⟩ ⟨1, by decide⟩ c [e]
def sampE (c : Str) (u : Equ) : Equ := ⟨u.left, whenX c u.right⟩
def sampN (c : Str) (j : Nat) (n : Nod) : Nod := { n with eqs := n.eqs.modify j (sampE c) }
def sampP (c : Str) (i j : Nat) (p : Prog) : Prog := { p with nodes := p.nodes.modify i (sampN c j) }
theorem firstI_mod {g : Equ → Int} {f : Equ → Equ} : ∀ {l : List Equ} {j : Nat} (hj : j < l.length), (∀ u ∈ l, g u = 0) → g (f l[j]) ≠ 0 → firstI g (l.modify j f) = ((j : Int), g (f l[j]))
 | u :: l, 0, hj, h, hn => by
   simp only [List.modify_zero_cons, List.getElem_cons_zero] at hn ⊢
   rw [firstI, if_neg hn]; rfl
 | u :: l, j + 1, hj, h, hn => by
   simp only [List.modify_succ_cons, List.getElem_cons_succ] at hn ⊢
   rw [firstI, if_pos (h u (by simp)), firstI_mod (by simpa using hj) (fun v hv => h v (by simp [hv])) hn, if_neg hn]
   simp
theorem clkNods_mod {f : Nod → Nod} : ∀ {l : List Nod} {i b : Nat} (hi : i < l.length), (∀ n ∈ l, (nodeK n).2 = 0) → (nodeK (f l[i])).2 ≠ 0 → clkNods b (l.modify i f) = ((((b + i : Nat) : Int), (nodeK (f l[i])).1), (nodeK (f l[i])).2)
 | n :: l, 0, b, hi, h, hn => by
   simp only [List.modify_zero_cons, List.getElem_cons_zero] at hn ⊢
   rw [clkNods, if_neg hn]; rfl
 | n :: l, i + 1, b, hi, h, hn => by
   simp only [List.modify_succ_cons, List.getElem_cons_succ] at hn ⊢
   rw [clkNods, if_pos (h n (by simp)), clkNods_mod (by simpa using hi) (fun v hv => h v (by simp [hv])) hn]
   congr 2; omega
theorem sampled_law {p : Prog} (h : (clocksX p).2 = 0) {i j : Nat} (hi : i < p.nodes.length) (hi63 : (i : Int) ≤ 9223372036854775807) (hj : j < p.nodes[i].eqs.length) {s c : Str} (hl : p.nodes[i].eqs[j].left = [s]) (hs : clkP p (nI i) s = ([], 0)) (ht : (typesX (sampP c i j p)).2 = 0) :
  clocksX (sampP c i j p) = (((i : Int), (j : Int)), 11) := by
 obtain ⟨h1, h2, h3⟩ := clocks_ok h
 have hpl : plainP (sampP c i j p) = true := by
  unfold plainP at h1 ⊢
  rw [List.all_eq_true] at h1 ⊢
  intro n hn
  obtain ⟨k, hk⟩ := List.getElem?_of_mem hn
  simp only [sampP, List.getElem?_modify] at hk
  cases hq : p.nodes[k]? with
  | none => rw [hq] at hk; cases hk
  | some m =>
    rw [hq] at hk
    have hm := h1 m (List.mem_of_getElem? hq)
    simp only [Option.map_eq_map, Option.map_some] at hk
    split at hk <;> (cases hk; exact hm)
 have hk0 := h3 _ (List.getElem_mem hi)
 obtain ⟨k1, k2, k3⟩ := nodeK_ok hk0
 have hv : varsL (sampN c j p.nodes[i]) = varsL p.nodes[i] := rfl
 obtain ⟨d, hd, hdc⟩ : ∃ d, findD (varsL p.nodes[i]) s = some d ∧ d.clock = [] := by
  have hnv := nI_val hi63
  unfold clkP at hs
  rw [if_neg (by omega), hnv, Int.toNat_natCast, List.getElem?_eq_getElem hi] at hs
  simp only [] at hs
  cases hf : findD (varsL p.nodes[i]) s with
  | none => rw [hf] at hs; simp at hs
  | some d => rw [hf] at hs; simp at hs; exact ⟨d, rfl, hs⟩
 have he : eqClk (varsL p.nodes[i]) (sampE c p.nodes[i].eqs[j]) = 11 := by
  have h0 := k2 _ (List.getElem_mem hj)
  unfold eqClk at h0 ⊢
  split at h0
  ·rename_i hall
   rw [if_pos (show ((sampE c p.nodes[i].eqs[j]).left.all fun s => onX (varsL p.nodes[i]) s (dclk (varsL p.nodes[i]) ((sampE c p.nodes[i].eqs[j]).left.headD []))) = true from hall)]
   have hdk : dclk (varsL p.nodes[i]) ((sampE c p.nodes[i].eqs[j]).left.headD []) = [] := by
    show dclk (varsL p.nodes[i]) (p.nodes[i].eqs[j].left.headD []) = []
    rw [hl]; unfold dclk; simp [hd, hdc]
   rw [hdk, fitsX_eq]
   have hh : headG (varsL p.nodes[i]) (whenX c p.nodes[i].eqs[j].right) [] = 11 := by
    unfold headG
    rw [if_neg (by simp [whenX, Ex.kind]), if_pos (by simp [whenX, Ex.kind]), if_neg (by simp)]
   rw [if_neg (by simp [sampE, whenX, Ex.kind])]
   show orE (headG _ (whenX c p.nodes[i].eqs[j].right) []) _ = 11
   rw [hh]; rfl
  ·cases h0
 have hfi := firstI_mod (g := eqClk (varsL p.nodes[i])) (f := sampE c) hj k2 (by rw [he]; decide)
 rw [he] at hfi
 have hnk : nodeK (sampN c j p.nodes[i]) = ((j : Int), 11) := by
  unfold nodeK
  rw [hv, if_neg (by rw [show (sampN c j p.nodes[i]).locals = p.nodes[i].locals from rfl, k1]; simp)]
  show (if firstE (eqClk (varsL p.nodes[i])) (p.nodes[i].eqs.modify j (sampE c)) ≠ 0 then _ else _) = _
  rw [← firstI_snd, hfi, if_pos (show (11 : Int) ≠ 0 by decide)]
  exact hfi
 have hcn := clkNods_mod (b := 0) (f := sampN c j) hi h3 (by rw [hnk]; exact (show (11 : Int) ≠ 0 by decide))
 rw [hnk] at hcn
 unfold clocksX
 rw [if_neg (by simp [hpl]), if_neg (by simp [ht])]
 show clkNods 0 (p.nodes.modify i (sampN c j)) = _
 rw [hcn, Nat.zero_add]
def withinX (a b : List OnC) : Bool := decide (b.length ≤ a.length ∧ a.take b.length = b)
theorem within_nil (a : List OnC) : withinX a [] = true := by simp [withinX]
abbrev onV (o : OnC) : Value := .agg #[str o.name, .int .i64 o.t.1, .int .i64 o.tag.1]
theorem cellsOn : Tryz.prog.cellsOf 57 = 3 := by kernel_rfl
theorem keyTyOn : Tryz.prog.keyType 57 = true := by kernel_rfl
theorem wf64 (t : I64) : (Lit.int .i64 t.1).wf = true := by
 simp only [Lit.wf, Bool.and_eq_true, decide_eq_true_eq]
 exact ⟨t.2.1, t.2.2⟩
theorem keyLitsOn (N : Nat) {o : OnC} (hs : (⟨o.name.toArray⟩ : ByteArray).size ≤ maxLen) :
  (Tryz.prog.keyLits (N + 1 + 1) 57 [str o.name, .int .i64 o.t.1, .int .i64 o.tag.1]) = some [.string o.name, .int .i64 o.t.1, .int .i64 o.tag.1] := by
 have e1 : ∀ c, Tryz.prog.keyLits (N + 1) 3 [c] = (match c with | .int q' n => if q' = .i64 ∧ (Lit.int .i64 n).wf = true then some [.int .i64 n] else none | _ => none) := fun c => by
  unfold Program.keyLits
  simp only [Tryz.underlying3]
  cases c <;> rfl
 have e2 : Tryz.prog.keyLits (N + 1) 9 [str o.name] = some [.string o.name] := by
  unfold Program.keyLits
  simp only [Tryz.underlying9]
  rw [if_pos hs]
 unfold Program.keyLits
 simp only [Tryz.underlying57, cellsOn]
 simp only [List.length_cons, List.length_nil, List.mapM_cons, List.mapM_nil, cells3, cells4, List.drop_zero, List.take, List.drop, e1, e2, wf64]
 simp
theorem keyOn {o : OnC} (h : o.name.length ≤ 1000000000) : keyOf Tryz.prog 57 (onV o) = some (.string (keyBytes [.string o.name, .int .i64 o.t.1, .int .i64 o.tag.1])) := by
 have hs : (⟨o.name.toArray⟩ : ByteArray).size ≤ maxLen := by
  show o.name.toArray.size ≤ maxLen
  simp [maxLen]; omega
 have h5 : (onV o).formed Tryz.prog 57 = true := by
  simp only [onV, Value.formed, Tryz.underlying57, cellsOn]; rfl
 obtain ⟨N, hN⟩ := typesN
 rw [keyOf, Tryz.underlying57]
 simp only [keyTyOn, h5, hN, Value.cells, Bool.and_self, if_true, keyLitsOn N hs, Option.map_some]
section
variable {n : Nat} {env : Env} {K : TK} {all : Array Oper} {rest : List Oper} {d : Nat} {ty : TypeId} {pos : String} {aft : Array Edge} {H : Heap} {q : Bool}
theorem on_val {o : OnC} {m : M} {v : Value} (h : SRel m (.t (onT o)) v) : v = onV o := by
 cases h with
 | t _ _ h =>
   cases h with
   | ag _ arr hs h1 h =>
     obtain ⟨l⟩ := arr
     match l, hs with
     | [a, b, c], _ =>
       have ha := h 0 _ a rfl rfl
       have hb := h 1 _ b rfl rfl
       have hc := h 2 _ c rfl rfl
       cases ha; cases hb; cases hc
       rfl
theorem run_eqOn (w : World) {a b : OnC} (ha : a.name.length ≤ 1000000000) (hb : b.name.length ≤ 1000000000) : (Op.equal 57 (onV a) (onV b)).run Tryz.prog w = .ok (decide (a = b)) w := by
 obtain ⟨N, hN⟩ := typesN
 have la := keyLitsOn N (o := a) (by show a.name.toArray.size ≤ maxLen; simp [maxLen]; omega)
 have lb := keyLitsOn N (o := b) (by show b.name.toArray.size ≤ maxLen; simp [maxLen]; omega)
 obtain ⟨r, hr, hrr⟩ := run_equal_deep (P := Tryz.prog) w (m := 3) (Nat.le_of_ble_eq_true rfl) (by kernel_rfl) (by rw [Tryz.underlying57]) (keyOn ha) (keyOn hb)
 have hrd : r = decide (a = b) := by
  by_cases h : a = b
  ·rw [decide_eq_true h]; exact hrr.2 (by rw [h])
  ·rw [decide_eq_false h]
   cases hb : r with
   | false => rfl
   | true =>
     exfalso
     have := hrr.1 hb
     simp only [Lit.string.injEq] at this
     have := keyLits_inj la lb this
     simp only [List.cons.injEq, Lit.string.injEq, Lit.int.injEq, true_and, and_true] at this
     obtain ⟨h1, h2, h3⟩ := this
     exact h ((onEq_iff a b).1 (by simp [onEq, h1, h2, h3]))
 rw [hr, hrd]
theorem TO.neOn {t' : TypeId} {x y : Operand} {a b : OnC} (hd : Nat.ble (d + 1) n = true) (hx : env.val x = some (.t (onT a))) (hy : env.val y = some (.t (onT b))) (ha : a.name.length ≤ 1000000000) (hb : b.name.length ≤ 1000000000)
  (k : TO q Tryz.prog n all rest ((d, .b (!decide (a = b))) :: env) H K) : TO q Tryz.prog n all (⟨some d, .binOp .neq 57 x y t', ty, pos, aft, none⟩ :: rest) env H K :=
 TO.op hd (fun m ac h1 h2 h3 => ⟨.bool (!decide (a = b)), fun w' hw' => by
  have e1 := on_val (h3.val hx)
  have e2 := on_val (h3.val hy)
  have hg : Tryz.prog.eqGuardType Tryz.prog.depth 57 = false := by kernel_rfl
  simp [execOp, e1, e2, eqGuard, hg, Go.binOp, run_eqOn w' ha hb], .t _ _ (.v _)⟩) k
theorem TO.neOnV {t' : TypeId} {x y : Operand} {a b : OnC} {v : Bool} (hd : Nat.ble (d + 1) n = true) (hx : env.val x = some (.t (onT a))) (hy : env.val y = some (.t (onT b))) (ha : a.name.length ≤ 1000000000) (hb : b.name.length ≤ 1000000000) (hv : (!decide (a = b)) = v)
  (k : TO q Tryz.prog n all rest ((d, .b v) :: env) H K) : TO q Tryz.prog n all (⟨some d, .binOp .neq 57 x y t', ty, pos, aft, none⟩ :: rest) env H K := by
 subst hv; exact TO.neOn hd hx hy ha hb k
end
theorem rg {n : Nat} {env0 envF : Env} {H0 : Heap} {K : TK} {id' : Nat} {l : List Oper} (t : List SV)
  (hp : Prem Tryz.prog n l.toArray (fullE l.toArray t env0) l (t.map fun v => (v, false)) [H0]) (hK : K .normal envF H0)
  (hB : (Nat.beq t.length l.length && mixB l.toArray (t.map fun _ => false)) = true := by dsimp only [List.map, List.length]; decide +kernel) (hE : forceL (fullE l.toArray t env0) = some envF := by exact rfl) :
  TR Tryz.prog n (.region id' l.toArray true) env0 H0 K := by
 simp only [Bool.and_eq_true] at hB
 have e1 : (t.map fun v => (v, false)).map (·.1) = t := by rw [List.map_map]; exact List.map_id t
 have e2 : (t.map fun v => (v, false)).map (·.2) = t.map fun _ => false := by rw [List.map_map]; rfl
 have e3 : (t.map fun _ => false).filter id = [] := by
  rw [List.filter_map]; simp
 exact TR.regionM (t.map fun v => (v, false)) [H0] hmix (by rw [e2]; exact hB.2) rfl (by rw [e1]; exact hp) (by rw [e2, e3]; rfl) (by rw [e1]; exact hE) hK
abbrev onsT (l : List OnC) : T := .sl 3 (l.map onT)
def SmallK (l : List OnC) : Prop := l.length ≤ 100000000 ∧ ∀ o ∈ l, o.name.length ≤ 1000000000
theorem SmallK.nil : SmallK [] := ⟨by simp, by simp⟩
theorem SmallK.take {l : List OnC} (h : SmallK l) (k : Nat) : SmallK (l.take k) := ⟨by have := h.1; simp; omega, fun o ho => h.2 o (List.mem_of_mem_take ho)⟩
theorem equalOn_sound (a b : List OnC) (ha : SmallK a) (hb : SmallK b) : Pure Tryz.prog 60 [.t (onsT a), .t (onsT b)] (.b (decide (a = b))) := by
 have hma : (a.map onT).length = a.length := List.length_map _
 have hmb : (b.map onT).length = b.length := List.length_map _
 have hla := ha.1
 by_cases hl : a.length = b.length
 ·refine Sound.of tabOk Tryz.func60 (by kernel_rfl) rfl rfl ?_
  repeat' (first | refine wk ?_ | exact wkc | intro hc | refine wk2 ?_ ?_ | fail | fail)
  all_goals try (exfalso; omega)
  refine TR.loopN a.length (fun k => a.take k = b.take k) (fun k => [(0, .t (onsT a)), (1, .t (onsT b)), (12, .i (a.map onT).length), (13, .i k)]) (fun _ => []) rfl (fun k hlt hk => ?_) (fun hk => ?_)
  ·have hx := at_map onT hlt
   have hy := at_map onT (l := b) (show k < b.length by omega)
   have h1 := take_at hlt
   have h2 := take_at (l := b) (show k < b.length by omega)
   have hu := ha.2 _ (List.getElem_mem hlt)
   have hv := hb.2 _ (List.getElem_mem (show k < b.length by omega))
   have hne : a[k] ≠ b[k]'(by omega) → a ≠ b := fun h e => h (by subst e; rfl)
   generalize a[k] = u at *
   generalize b[k]'(by omega) = v at *
   repeat' (first | refine wk ?_ | exact wkc | intro hc | refine wk2 ?_ ?_ | (apply TO.neOn; (iterate 3 exact rfl); assumption; assumption) | fail)
   ·rw [decide_eq_false (hne (by simpa using hc))]; exact wkr
   ·refine LoopK.nextN hlt ?_
    rw [h1, h2, hk, show u = v by simpa using hc]
  ·rw [List.take_length, hl, List.take_length] at hk
   rw [decide_eq_true hk]
   repeat' (first | refine wk ?_ | exact wkc | intro hc | refine wk2 ?_ ?_ | fail | fail)
   exact wkr
 ·rw [decide_eq_false (fun e => hl (by rw [e]))]
  refine Sound.of tabOk Tryz.func60 (by kernel_rfl) rfl rfl ?_
  repeat' (first | refine wk ?_ | exact wkc | intro hc | refine wk2 ?_ ?_ | fail | fail)
  all_goals first
   | exact wkr
   | (exfalso; omega)
theorem sameK_sound (a b : List OnC) (ha : SmallK a) (hb : SmallK b) : Pure Tryz.prog 23 [.t (onsT a), .t (onsT b)] (.b (decide (a = b))) := by
 have hs := equalOn_sound a b ha hb
 generalize decide (a = b) = z at *
 refine Sound.of tabOk Tryz.func23 (by kernel_rfl) rfl rfl ?_
 repeat' (first | refine wk ?_ | exact wkc | intro hc | refine wk2 ?_ ?_ | refine wv hs ?_ | fail)
 exact wkr
theorem within_sound (a b : List OnC) (ha : SmallK a) (hb : SmallK b) : Pure Tryz.prog 25 [.t (onsT a), .t (onsT b)] (.b (withinX a b)) := by
 have hma : (a.map onT).length = a.length := List.length_map _
 have hmb : (b.map onT).length = b.length := List.length_map _
 have hs := sameK_sound (a.take b.length) b (ha.take _) hb
 rw [show onsT (a.take b.length) = .sl 3 ((a.map onT).take b.length) by rw [onsT, List.map_take]] at hs
 unfold withinX
 by_cases h : b.length ≤ a.length
 ·rw [show decide (b.length ≤ a.length ∧ a.take b.length = b) = decide (a.take b.length = b) by simp [h]]
  generalize decide (a.take b.length = b) = z at *
  rw [← hmb] at hs
  refine Sound.of tabOk Tryz.func25 (by kernel_rfl) rfl rfl ?_
  repeat' (first | refine wk ?_ | exact wkc | intro hc | refine wk2 ?_ ?_ | refine wv hs ?_ | fail)
  all_goals first
   | exact wkr
   | (exfalso; omega)
 ·rw [decide_eq_false (fun hh => h hh.1)]
  refine Sound.of tabOk Tryz.func25 (by kernel_rfl) rfl rfl ?_
  repeat' (first | refine wk ?_ | exact wkc | intro hc | refine wk2 ?_ ?_ | fail | fail)
  all_goals first
   | exact wkr
   | (exfalso; omega)
def noD : Decl := ⟨[], ⟨0, by decide⟩, []⟩
def findZ (vars : List Decl) (nm : Str) : Decl := (findD vars nm).getD noD
theorem findZ_clock (vars : List Decl) (nm : Str) : (findZ vars nm).clock = dclk vars nm := by
 unfold findZ dclk
 cases findD vars nm <;> rfl
theorem findD_idx (nm : Str) : ∀ (l : List Decl), (idxI (fun d => d.name == nm) l = -1 ∧ findD l nm = none) ∨ ∃ k : Nat, ∃ h : k < l.length, idxI (fun d => d.name == nm) l = k ∧ findD l nm = some l[k]
 | [] => .inl ⟨rfl, rfl⟩
 | d :: l => by
   unfold idxI findD
   by_cases hd : d.name = nm
   ·rw [if_pos hd, if_pos (by simpa using hd)]
    exact .inr ⟨0, by simp, rfl, rfl⟩
   ·rw [if_neg hd, if_neg (by simpa using hd)]
    rcases findD_idx nm l with ⟨h1, h2⟩ | ⟨k, hk, h1, h2⟩
    ·rw [h1, h2]; exact .inl ⟨rfl, rfl⟩
    ·rw [h1, h2, if_neg (by omega)]
     exact .inr ⟨k + 1, by simpa using hk, by omega, rfl⟩
abbrev chkC (vars : List Decl) : List T := [declsT vars]
theorem findNamed_sound (d : Decl) (nm : Str) : Pure Tryz.prog 90 [.t (declT d), .cp [.s nm] 0] (.b (d.name == nm)) := by
 have hd : declT d = .ag [.s d.name, T.n d.ty, .sl 3 (d.clock.map onT)] := rfl
 rw [hd]
 refine Sound.of tabOk Tryz.func90 (by kernel_rfl) rfl rfl ?_
 repeat' (first | refine wkt ?_ | refine wk ?_ | exact wkc | intro hc | refine wk2 ?_ ?_ | fail)
 all_goals try (refine RetK.pure rfl ?_ rfl; exact Le.of_eq (by simp_all [pack, declT] <;> omega))
theorem findK_sound (vars : List Decl) (hl : vars.length ≤ 1000000000) (nm : Str) : Pure Tryz.prog 53 [.t (.ag (chkC vars)), .s nm] (.tup [.t (declT (findZ vars nm)), .b (findD vars nm).isSome]) := by
 have hs := idxDecl_sound 90 [.cp [.s nm] 0] rfl (fun d => d.name == nm) vars hl (fun d => findNamed_sound d nm)
 have hml : (vars.map declT).length = vars.length := List.length_map _
 unfold findZ
 rcases findD_idx nm vars with ⟨h1, h2⟩ | ⟨k, hk, h1, h2⟩
 ·rw [h1] at hs
  rw [h2]
  refine Sound.of tabOk Tryz.func53 (by kernel_rfl) rfl rfl ?_
  repeat' (first | refine wkt ?_ | refine wka ?_ | refine wk ?_ | exact wkc | intro hc | refine wk2 ?_ ?_ | (apply TO.callV hs; (iterate 3 exact rfl); exact Les.refl _; exact rfl; exact rfl) | fail)
  exact wkr
 ·rw [h1] at hs
  rw [h2]
  have hx := at_decl hk
  generalize vars[k] = d at *
  unfold declC at hx
  refine Sound.of tabOk Tryz.func53 (by kernel_rfl) rfl rfl ?_
  repeat' (first | refine wkt ?_ | refine wka ?_ | refine wk ?_ | exact wkc | intro hc | refine wk2 ?_ ?_ | (apply TO.callV hs; (iterate 3 exact rfl); exact Les.refl _; exact rfl; exact rfl) | fail)
  exact wkr
theorem on_sound (vars : List Decl) (hl : vars.length ≤ 1000000000) (hk : ∀ d ∈ vars, SmallK d.clock) (nm : Str) (ck : List OnC) (hck : SmallK ck) : Pure Tryz.prog 92 [.t (.ag (chkC vars)), .s nm, .t (onsT ck)] (.b (onX vars nm ck)) := by
 have hf := findK_sound vars hl nm
 unfold findZ at hf
 unfold onX
 cases hd : findD vars nm with
 | none =>
   rw [hd] at hf
   refine Sound.of tabOk Tryz.func92 (by kernel_rfl) rfl rfl ?_
   repeat' (first | refine wkt ?_ | refine wka ?_ | refine wk ?_ | exact wkc | intro hc | refine wk2 ?_ ?_ | refine wv hf ?_ | fail)
   exact wkr
 | some d =>
   rw [hd] at hf
   have hs := sameK_sound d.clock ck (hk d (findD_mem hd).1) hck
   simp only [Option.getD_some, Option.isSome_some] at hf ⊢
   have hdT : declT d = .ag [.s d.name, T.n d.ty, onsT d.clock] := rfl
   rw [hdT] at hf
   generalize decide (d.clock = ck) = z at *
   refine Sound.of tabOk Tryz.func92 (by kernel_rfl) rfl rfl ?_
   repeat' (first | refine wkt ?_ | refine wka ?_ | refine wk ?_ | exact wkc | intro hc | refine wk2 ?_ ?_ | refine wv hf ?_ | refine wv hs ?_ | fail)
   exact wkr
end Go.Proofs.YtlocalghkiepmaaGreat
