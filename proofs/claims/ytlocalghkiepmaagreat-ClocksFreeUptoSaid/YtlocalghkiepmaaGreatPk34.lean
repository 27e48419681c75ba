import Derived.Test.YtlocalghkiepmaaGreatPk14
import Derived.Test.YtlocalghkiepmaaGreatPk20
import Derived.Test.YtlocalghkiepmaaGreatPk24
import Derived.Test.YtlocalghkiepmaaGreatPk28
import Derived.Test.YtlocalghkiepmaaGreatPk33
set_option linter.unusedSimpArgs false
set_option linter.unusedVariables false
namespace Go.Proofs.YtlocalghkiepmaaGreat
open Go Go.TL
attribute [local irreducible] TR TO Then InBlock RetK Sound LoopK Kf GG ThenL
theorem typesX_parts {p : Prog} (h : (typesX p).2 = 0) : (scopeX p).2 = 0 ∧ (shapeX p).2 = 0 ∧ (tyNods p p.nodes.zipIdx).2 = 0 := by
 have hs : (scopeX p).2 = 0 := Classical.byContradiction fun hh => by
  unfold typesX at h
  rw [if_pos hh] at h; exact hh h
 refine ⟨hs, Classical.byContradiction fun hh => ?_, ?_⟩
 ·unfold scopeX at hs
  rw [if_pos hh] at hs; exact hh hs
 ·unfold typesX at h
  rw [if_neg (by simp [hs])] at h; exact h
theorem nI_val {k : Nat} (h : (k : Int) ≤ 9223372036854775807) : (nI k).1 = k := by unfold nI; rw [dif_pos h]
theorem fits_free {vars : List Decl} : ∀ (m : Nat) (e : Ex), wEx e ≤ m → (∀ x ∈ flat e, isVar x = false) → ∀ ck, fitsX vars e ck = 0
 | 0, e, h => by have := wEx_pos e; omega
 | m + 1, e, h => by
   intro hv ck
   have hself := hv e (flat_mem.2 (.inl rfl))
   have h2 : ¬ (e.kind.1 = 2 ∨ e.kind.1 = 8 ∨ e.kind.1 = 9) := by simpa [isVar] using hself
   rw [fitsX_eq]
   split
   ·rfl
   ·have hh : headG vars e ck = 0 := by unfold headG; rw [if_neg (by omega), if_neg (by omega), if_neg (by omega)]
    rw [hh]
    have : ∀ (l : List Ex) (i : Nat), (∀ a ∈ l, a ∈ e.args) → argsG (fun i a => fitsX vars a (underX e ck i)) i l = 0 := by
     intro l
     induction l with
     | nil => intro i _; rfl
     | cons a l ih =>
       intro i hl
       rw [argsG, fits_free m a (by have := wEx_arg (hl a (by simp)); omega) (fun x hx => hv x (flat_sub (hl a (by simp)) x hx)), ih _ (fun b hb => hl b (by simp [hb]))]
       rfl
    rw [this _ _ (fun a ha => ha)]; rfl
theorem free_law {p : Prog} {node : I64} {e : Ex} {ck : List OnC} (hn : namesX [] e = []) (hc : ck.length ≤ 4) : fitsP p node e ck = if node.1 < 0 ∨ (p.nodes.length : Int) ≤ node.1 then 2 else exprX p.enums e := by
 have hv : ∀ x ∈ flat e, isVar x = false := fun x hx => by
  cases hq : isVar x with
  | false => rfl
  | true =>
    have := (foldl_addN (flat e) [] x.name).2 (.inr ⟨x, hx, hq, rfl⟩)
    unfold namesX at hn
    rw [hn] at this; cases this
 unfold fitsP
 by_cases h1 : node.1 < 0 ∨ (p.nodes.length : Int) ≤ node.1
 ·rw [if_pos h1, if_pos h1]
 ·rw [if_neg h1, if_neg h1]
  by_cases hx : exprX p.enums e ≠ 0
  ·rw [if_pos hx]
  ·rw [if_neg hx]
   have hx0 : exprX p.enums e = 0 := Classical.byContradiction hx
   rw [List.getElem?_eq_getElem (show node.1.toNat < p.nodes.length by omega)]
   simp only []
   rw [hn, fits_free _ e (Nat.le_refl _) hv, hx0]
   simp [firstE, hc]
def fitsPR (p : Prog) (node : I64) (e : Ex) (ck : List OnC) : Int :=
 if node.1 < 0 ∨ (p.nodes.length : Int) ≤ node.1 then 2 else if exprX p.enums e ≠ 0 then exprX p.enums e else
 match p.nodes[node.1.toNat]? with
 | some n => if firstE (fun s => if (findD (varsL n) s).isSome = true then (0 : Int) else 6) (namesX [] e) ≠ 0 then 6 else if 4 < ck.length then 3 else fitsR (varsL n) (wEx e) e ck
 | none => 2
theorem one_flat {es : List En} {e : Ex} (h : exprX es e = 0) : ∀ x ∈ flat e, oneX x = 0 := by
 unfold exprX at h
 split at h
 ·rename_i hc
  unfold checkX at hc
  split at hc
  ·cases hc
  ·exact firstE_zero hc
 ·rename_i hc; exact absurd h hc
theorem fitsPR_eq (p : Prog) (node : I64) (e : Ex) (ck : List OnC) : fitsPR p node e ck = fitsP p node e ck := by
 unfold fitsPR fitsP
 split
 ·rfl
 ·split
  ·rfl
  ·rename_i hx
   have hx0 : exprX p.enums e = 0 := Classical.byContradiction hx
   cases hn : p.nodes[node.1.toNat]? with
   | none => rfl
   | some n =>
     simp only []
     split
     ·rfl
     ·rename_i hk
      split
      ·rfl
      ·exact fits_eq _ _ e (Nat.le_refl _) (arity_flat hx0) (one_flat hx0) ((known_iff _ _).2 (Classical.byContradiction hk)) ck (by omega)
def withinX (a b : List OnC) : Bool := decide (b.length ≤ a.length ∧ a.take b.length = b)
theorem within_self (a : List OnC) : withinX a a = true := by simp [withinX]
theorem within_nil (a : List OnC) : withinX a [] = true := by simp [withinX]
theorem within_trans {a b c : List OnC} (h1 : withinX a b = true) (h2 : withinX b c = true) : withinX a c = true := by
 simp only [withinX, decide_eq_true_eq] at *
 refine ⟨by omega, ?_⟩
 rw [← h2.2, ← h1.2, List.take_take]
 congr 1
 simp; omega
theorem within_both (a b : List OnC) : (withinX a b && withinX b a) = decide (a = b) := by
 by_cases h : a = b
 ·subst h; simp [withinX]
 ·rw [decide_eq_false h]
  cases h1 : withinX a b with
  | false => rfl
  | true =>
    cases h2 : withinX b a with
    | false => rfl
    | true =>
      exfalso
      simp only [withinX, decide_eq_true_eq] at h1 h2
      have hl : a.length = b.length := by omega
      have := h1.2
      rw [← hl, List.take_length] at this
      exact h this
abbrev onV (o : OnC) : Value := .agg #[str o.name, .int .i64 o.t.1, .int .i64 o.tag.1]
theorem cellsOn : Tryz.prog.cellsOf 57 = 3 := by kernel_rfl
theorem keyTyOn : Tryz.prog.keyType 57 = true := by kernel_rfl
theorem wf64 (t : I64) : (Lit.int .i64 t.1).wf = true := by
 simp only [Lit.wf, Bool.and_eq_true, decide_eq_true_eq]
 exact ⟨t.2.1, t.2.2⟩
theorem keyLitsOn (N : Nat) {o : OnC} (hs : (⟨o.name.toArray⟩ : ByteArray).size ≤ maxLen) :
  (Tryz.prog.keyLits (N + 1 + 1) 57 [str o.name, .int .i64 o.t.1, .int .i64 o.tag.1]) = some [.string o.name, .int .i64 o.t.1, .int .i64 o.tag.1] := by
 have e1 : ∀ c, Tryz.prog.keyLits (N + 1) 3 [c] = (match c with | .int q' n => if q' = .i64 ∧ (Lit.int .i64 n).wf = true then some [.int .i64 n] else none | _ => none) := fun c => by
  unfold Program.keyLits
  simp only [Tryz.underlying3]
  cases c <;> rfl
 have e2 : Tryz.prog.keyLits (N + 1) 9 [str o.name] = some [.string o.name] := by
  unfold Program.keyLits
  simp only [Tryz.underlying9]
  rw [if_pos hs]
 unfold Program.keyLits
 simp only [Tryz.underlying57, cellsOn]
 simp only [List.length_cons, List.length_nil, List.mapM_cons, List.mapM_nil, cells3, cells4, List.drop_zero, List.take, List.drop, e1, e2, wf64]
 simp
theorem keyOn {o : OnC} (h : o.name.length ≤ 1000000000) : keyOf Tryz.prog 57 (onV o) = some (.string (keyBytes [.string o.name, .int .i64 o.t.1, .int .i64 o.tag.1])) := by
 have hs : (⟨o.name.toArray⟩ : ByteArray).size ≤ maxLen := by
  show o.name.toArray.size ≤ maxLen
  simp [maxLen]; omega
 have h5 : (onV o).formed Tryz.prog 57 = true := by
  simp only [onV, Value.formed, Tryz.underlying57, cellsOn]; rfl
 obtain ⟨N, hN⟩ := typesN
 rw [keyOf, Tryz.underlying57]
 simp only [keyTyOn, h5, hN, Value.cells, Bool.and_self, if_true, keyLitsOn N hs, Option.map_some]
section
variable {n : Nat} {env : Env} {K : TK} {all : Array Oper} {rest : List Oper} {d : Nat} {ty : TypeId} {pos : String} {aft : Array Edge} {H : Heap} {q : Bool}
theorem on_val {o : OnC} {m : M} {v : Value} (h : SRel m (.t (onT o)) v) : v = onV o := by
 cases h with
 | t _ _ h =>
   cases h with
   | ag _ arr hs h1 h =>
     obtain ⟨l⟩ := arr
     match l, hs with
     | [a, b, c], _ =>
       have ha := h 0 _ a rfl rfl
       have hb := h 1 _ b rfl rfl
       have hc := h 2 _ c rfl rfl
       cases ha; cases hb; cases hc
       rfl
theorem run_eqOn (w : World) {a b : OnC} (ha : a.name.length ≤ 1000000000) (hb : b.name.length ≤ 1000000000) : (Op.equal 57 (onV a) (onV b)).run Tryz.prog w = .ok (decide (a = b)) w := by
 obtain ⟨N, hN⟩ := typesN
 have la := keyLitsOn N (o := a) (by show a.name.toArray.size ≤ maxLen; simp [maxLen]; omega)
 have lb := keyLitsOn N (o := b) (by show b.name.toArray.size ≤ maxLen; simp [maxLen]; omega)
 obtain ⟨r, hr, hrr⟩ := run_equal_deep (P := Tryz.prog) w (m := 3) (Nat.le_of_ble_eq_true rfl) (by kernel_rfl) (by rw [Tryz.underlying57]) (keyOn ha) (keyOn hb)
 have hrd : r = decide (a = b) := by
  by_cases h : a = b
  ·rw [decide_eq_true h]; exact hrr.2 (by rw [h])
  ·rw [decide_eq_false h]
   cases hb : r with
   | false => rfl
   | true =>
     exfalso
     have := hrr.1 hb
     simp only [Lit.string.injEq] at this
     have := keyLits_inj la lb this
     simp only [List.cons.injEq, Lit.string.injEq, Lit.int.injEq, true_and, and_true] at this
     obtain ⟨h1, h2, h3⟩ := this
     exact h ((onEq_iff a b).1 (by simp [onEq, h1, h2, h3]))
 rw [hr, hrd]
theorem TO.neOn {t' : TypeId} {x y : Operand} {a b : OnC} (hd : Nat.ble (d + 1) n = true) (hx : env.val x = some (.t (onT a))) (hy : env.val y = some (.t (onT b))) (ha : a.name.length ≤ 1000000000) (hb : b.name.length ≤ 1000000000)
  (k : TO q Tryz.prog n all rest ((d, .b (!decide (a = b))) :: env) H K) : TO q Tryz.prog n all (⟨some d, .binOp .neq 57 x y t', ty, pos, aft, none⟩ :: rest) env H K :=
 TO.op hd (fun m ac h1 h2 h3 => ⟨.bool (!decide (a = b)), fun w' hw' => by
  have e1 := on_val (h3.val hx)
  have e2 := on_val (h3.val hy)
  have hg : Tryz.prog.eqGuardType Tryz.prog.depth 57 = false := by kernel_rfl
  simp [execOp, e1, e2, eqGuard, hg, Go.binOp, run_eqOn w' ha hb], .t _ _ (.v _)⟩) k
theorem TO.neOnV {t' : TypeId} {x y : Operand} {a b : OnC} {v : Bool} (hd : Nat.ble (d + 1) n = true) (hx : env.val x = some (.t (onT a))) (hy : env.val y = some (.t (onT b))) (ha : a.name.length ≤ 1000000000) (hb : b.name.length ≤ 1000000000) (hv : (!decide (a = b)) = v)
  (k : TO q Tryz.prog n all rest ((d, .b v) :: env) H K) : TO q Tryz.prog n all (⟨some d, .binOp .neq 57 x y t', ty, pos, aft, none⟩ :: rest) env H K := by
 subst hv; exact TO.neOn hd hx hy ha hb k
end
theorem rg {n : Nat} {env0 envF : Env} {H0 : Heap} {K : TK} {id' : Nat} {l : List Oper} (t : List SV)
  (hp : Prem Tryz.prog n l.toArray (fullE l.toArray t env0) l (t.map fun v => (v, false)) [H0]) (hK : K .normal envF H0)
  (hB : (Nat.beq t.length l.length && mixB l.toArray (t.map fun _ => false)) = true := by dsimp only [List.map, List.length]; decide +kernel) (hE : forceL (fullE l.toArray t env0) = some envF := by exact rfl) :
  TR Tryz.prog n (.region id' l.toArray true) env0 H0 K := by
 simp only [Bool.and_eq_true] at hB
 have e1 : (t.map fun v => (v, false)).map (·.1) = t := by rw [List.map_map]; exact List.map_id t
 have e2 : (t.map fun v => (v, false)).map (·.2) = t.map fun _ => false := by rw [List.map_map]; rfl
 have e3 : (t.map fun _ => false).filter id = [] := by
  rw [List.filter_map]; simp
 exact TR.regionM (t.map fun v => (v, false)) [H0] hmix (by rw [e2]; exact hB.2) rfl (by rw [e1]; exact hp) (by rw [e2, e3]; rfl) (by rw [e1]; exact hE) hK
abbrev onsT (l : List OnC) : T := .sl 3 (l.map onT)
def SmallK (l : List OnC) : Prop := l.length ≤ 100000000 ∧ ∀ o ∈ l, o.name.length ≤ 1000000000
theorem SmallK.nil : SmallK [] := ⟨by simp, by simp⟩
theorem SmallK.take {l : List OnC} (h : SmallK l) (k : Nat) : SmallK (l.take k) := ⟨by have := h.1; simp; omega, fun o ho => h.2 o (List.mem_of_mem_take ho)⟩
theorem equalOn_sound (a b : List OnC) (ha : SmallK a) (hb : SmallK b) : Pure Tryz.prog 60 [.t (onsT a), .t (onsT b)] (.b (decide (a = b))) := by
 have hma : (a.map onT).length = a.length := List.length_map _
 have hmb : (b.map onT).length = b.length := List.length_map _
 have hla := ha.1
 by_cases hl : a.length = b.length
 ·refine Sound.of tabOk Tryz.func60 (by kernel_rfl) rfl rfl ?_
  repeat' (first | refine wk ?_ | exact wkc | intro hc | refine wk2 ?_ ?_ | fail | fail)
  all_goals try (exfalso; omega)
  refine TR.loopN a.length (fun k => a.take k = b.take k) (fun k => [(0, .t (onsT a)), (1, .t (onsT b)), (12, .i (a.map onT).length), (13, .i k)]) (fun _ => []) rfl (fun k hlt hk => ?_) (fun hk => ?_)
  ·have hx := at_map onT hlt
   have hy := at_map onT (l := b) (show k < b.length by omega)
   have h1 := take_at hlt
   have h2 := take_at (l := b) (show k < b.length by omega)
   have hu := ha.2 _ (List.getElem_mem hlt)
   have hv := hb.2 _ (List.getElem_mem (show k < b.length by omega))
   have hne : a[k] ≠ b[k]'(by omega) → a ≠ b := fun h e => h (by subst e; rfl)
   generalize a[k] = u at *
   generalize b[k]'(by omega) = v at *
   repeat' (first | refine wk ?_ | exact wkc | intro hc | refine wk2 ?_ ?_ | (apply TO.neOn; (iterate 3 exact rfl); assumption; assumption) | fail)
   ·rw [decide_eq_false (hne (by simpa using hc))]; exact wkr
   ·refine LoopK.nextN hlt ?_
    rw [h1, h2, hk, show u = v by simpa using hc]
  ·rw [List.take_length, hl, List.take_length] at hk
   rw [decide_eq_true hk]
   repeat' (first | refine wk ?_ | exact wkc | intro hc | refine wk2 ?_ ?_ | fail | fail)
   exact wkr
 ·rw [decide_eq_false (fun e => hl (by rw [e]))]
  refine Sound.of tabOk Tryz.func60 (by kernel_rfl) rfl rfl ?_
  repeat' (first | refine wk ?_ | exact wkc | intro hc | refine wk2 ?_ ?_ | fail | fail)
  all_goals first
   | exact wkr
   | (exfalso; omega)
theorem sameK_sound (a b : List OnC) (ha : SmallK a) (hb : SmallK b) : Pure Tryz.prog 23 [.t (onsT a), .t (onsT b)] (.b (decide (a = b))) := by
 have hs := equalOn_sound a b ha hb
 generalize decide (a = b) = z at *
 refine Sound.of tabOk Tryz.func23 (by kernel_rfl) rfl rfl ?_
 repeat' (first | refine wk ?_ | exact wkc | intro hc | refine wk2 ?_ ?_ | refine wv hs ?_ | fail)
 exact wkr
theorem sameKR_sound (a b : List OnC) (ha : SmallK a) (hb : SmallK b) : Pure Tryz.prog 24 [.t (onsT a), .t (onsT b)] (.b (decide (a = b))) := by
 have hma : (a.map onT).length = a.length := List.length_map _
 have hmb : (b.map onT).length = b.length := List.length_map _
 have hla := ha.1
 by_cases hl : a.length = b.length
 ·refine Sound.of tabOk Tryz.func24 (by kernel_rfl) rfl rfl ?_
  repeat' (first | refine wk ?_ | exact wkc | intro hc | refine wk2 ?_ ?_ | fail | fail)
  all_goals try (exfalso; omega)
  refine TR.loopN a.length (fun k => a.take k = b.take k) (fun k => [(0, .t (onsT a)), (1, .t (onsT b)), (5, .i k)]) (fun _ => []) rfl (fun k hlt hk => ?_) (fun hk => ?_)
  ·have hx := at_map onT hlt
   have hy := at_map onT (l := b) (show k < b.length by omega)
   have h1 := take_at hlt
   have h2 := take_at (l := b) (show k < b.length by omega)
   have hu := ha.2 _ (List.getElem_mem hlt)
   have hv := hb.2 _ (List.getElem_mem (show k < b.length by omega))
   have hne : a[k] ≠ b[k]'(by omega) → a ≠ b := fun h e => h (by subst e; rfl)
   generalize a[k] = u at *
   generalize b[k]'(by omega) = v at *
   repeat' (first | refine wk ?_ | exact wkc | intro hc | refine wk2 ?_ ?_ | (apply TO.neOn; (iterate 3 exact rfl); assumption; assumption) | fail)
   ·rw [decide_eq_false (hne (by simpa using hc))]; exact wkr
   ·refine LoopK.nextN hlt ?_
    rw [h1, h2, hk, show u = v by simpa using hc]
  ·rw [List.take_length, hl, List.take_length] at hk
   rw [decide_eq_true hk]
   repeat' (first | refine wk ?_ | exact wkc | intro hc | refine wk2 ?_ ?_ | fail | fail)
   exact wkr
 ·rw [decide_eq_false (fun e => hl (by rw [e]))]
  refine Sound.of tabOk Tryz.func24 (by kernel_rfl) rfl rfl ?_
  repeat' (first | refine wk ?_ | exact wkc | intro hc | refine wk2 ?_ ?_ | fail | fail)
  all_goals first
   | exact wkr
   | (exfalso; omega)
theorem within_sound (a b : List OnC) (ha : SmallK a) (hb : SmallK b) : Pure Tryz.prog 25 [.t (onsT a), .t (onsT b)] (.b (withinX a b)) := by
 have hma : (a.map onT).length = a.length := List.length_map _
 have hmb : (b.map onT).length = b.length := List.length_map _
 have hs := sameK_sound (a.take b.length) b (ha.take _) hb
 rw [show onsT (a.take b.length) = .sl 3 ((a.map onT).take b.length) by rw [onsT, List.map_take]] at hs
 unfold withinX
 by_cases h : b.length ≤ a.length
 ·rw [show decide (b.length ≤ a.length ∧ a.take b.length = b) = decide (a.take b.length = b) by simp [h]]
  generalize decide (a.take b.length = b) = z at *
  rw [← hmb] at hs
  refine Sound.of tabOk Tryz.func25 (by kernel_rfl) rfl rfl ?_
  repeat' (first | refine wk ?_ | exact wkc | intro hc | refine wk2 ?_ ?_ | refine wv hs ?_ | fail)
  all_goals first
   | exact wkr
   | (exfalso; omega)
 ·rw [decide_eq_false (fun hh => h hh.1)]
  refine Sound.of tabOk Tryz.func25 (by kernel_rfl) rfl rfl ?_
  repeat' (first | refine wk ?_ | exact wkc | intro hc | refine wk2 ?_ ?_ | fail | fail)
  all_goals first
   | exact wkr
   | (exfalso; omega)
theorem withinR_sound (a b : List OnC) (ha : SmallK a) (hb : SmallK b) : Pure Tryz.prog 26 [.t (onsT a), .t (onsT b)] (.b (withinX a b)) := by
 have hma : (a.map onT).length = a.length := List.length_map _
 have hmb : (b.map onT).length = b.length := List.length_map _
 have hs := sameKR_sound (a.take b.length) b (ha.take _) hb
 rw [show onsT (a.take b.length) = .sl 3 ((a.map onT).take b.length) by rw [onsT, List.map_take]] at hs
 unfold withinX
 by_cases h : b.length ≤ a.length
 ·rw [show decide (b.length ≤ a.length ∧ a.take b.length = b) = decide (a.take b.length = b) by simp [h]]
  generalize decide (a.take b.length = b) = z at *
  rw [← hmb] at hs
  refine Sound.of tabOk Tryz.func26 (by kernel_rfl) rfl rfl ?_
  repeat' (first | refine wk ?_ | exact wkc | intro hc | refine wk2 ?_ ?_ | refine wv hs ?_ | fail)
  all_goals first
   | exact wkr
   | (exfalso; omega)
 ·rw [decide_eq_false (fun hh => h hh.1)]
  refine Sound.of tabOk Tryz.func26 (by kernel_rfl) rfl rfl ?_
  repeat' (first | refine wk ?_ | exact wkc | intro hc | refine wk2 ?_ ?_ | fail | fail)
  all_goals first
   | exact wkr
   | (exfalso; omega)
def noD : Decl := ⟨[], ⟨0, by decide⟩, []⟩
def findZ (vars : List Decl) (nm : Str) : Decl := (findD vars nm).getD noD
theorem findZ_clock (vars : List Decl) (nm : Str) : (findZ vars nm).clock = dclk vars nm := by
 unfold findZ dclk
 cases findD vars nm <;> rfl
theorem findD_idx (nm : Str) : ∀ (l : List Decl), (idxI (fun d => d.name == nm) l = -1 ∧ findD l nm = none) ∨ ∃ k : Nat, ∃ h : k < l.length, idxI (fun d => d.name == nm) l = k ∧ findD l nm = some l[k]
 | [] => .inl ⟨rfl, rfl⟩
 | d :: l => by
   unfold idxI findD
   by_cases hd : d.name = nm
   ·rw [if_pos hd, if_pos (by simpa using hd)]
    exact .inr ⟨0, by simp, rfl, rfl⟩
   ·rw [if_neg hd, if_neg (by simpa using hd)]
    rcases findD_idx nm l with ⟨h1, h2⟩ | ⟨k, hk, h1, h2⟩
    ·rw [h1, h2]; exact .inl ⟨rfl, rfl⟩
    ·rw [h1, h2, if_neg (by omega)]
     exact .inr ⟨k + 1, by simpa using hk, by omega, rfl⟩
theorem findD_append (nm : Str) : ∀ (a b : List Decl), findD (a ++ b) nm = match findD a nm with | some d => some d | none => findD b nm
 | [], b => rfl
 | x :: a, b => by
   rw [List.cons_append, findD, findD, findD_append nm a b]
   split <;> rfl
theorem findD_at {vars : List Decl} {nm : Str} {k : Nat} (hk : k < vars.length) (h : findD (vars.take k) nm = none) : (vars[k].name = nm → findD vars nm = some vars[k]) ∧ (vars[k].name ≠ nm → findD (vars.take (k + 1)) nm = none) := by
 refine ⟨fun e => ?_, fun e => ?_⟩
 ·conv => lhs; rw [← List.take_append_drop k vars]
  rw [findD_append, h, List.drop_eq_getElem_cons hk, findD, if_pos e]
 ·rw [List.take_succ_eq_append_getElem hk, findD_append, h, findD, if_neg e]; rfl
abbrev chkC (vars : List Decl) : List T := [declsT vars]
theorem findNamed_sound (d : Decl) (nm : Str) : Pure Tryz.prog 90 [.t (declT d), .cp [.s nm] 0] (.b (d.name == nm)) := by
 have hd : declT d = .ag [.s d.name, T.n d.ty, .sl 3 (d.clock.map onT)] := rfl
 rw [hd]
 refine Sound.of tabOk Tryz.func90 (by kernel_rfl) rfl rfl ?_
 repeat' (first | refine wkt ?_ | refine wk ?_ | exact wkc | intro hc | refine wk2 ?_ ?_ | fail)
 all_goals try (refine RetK.pure rfl ?_ rfl; exact Le.of_eq (by simp_all [pack, declT] <;> omega))
theorem findK_sound (vars : List Decl) (hl : vars.length ≤ 1000000000) (nm : Str) : Pure Tryz.prog 53 [.t (.ag (chkC vars)), .s nm] (.tup [.t (declT (findZ vars nm)), .b (findD vars nm).isSome]) := by
 have hs := idxDecl_sound 90 [.cp [.s nm] 0] rfl (fun d => d.name == nm) vars hl (fun d => findNamed_sound d nm)
 have hml : (vars.map declT).length = vars.length := List.length_map _
 unfold findZ
 rcases findD_idx nm vars with ⟨h1, h2⟩ | ⟨k, hk, h1, h2⟩
 ·rw [h1] at hs
  rw [h2]
  refine Sound.of tabOk Tryz.func53 (by kernel_rfl) rfl rfl ?_
  repeat' (first | refine wkt ?_ | refine wka ?_ | refine wk ?_ | exact wkc | intro hc | refine wk2 ?_ ?_ | (apply TO.callV hs; (iterate 3 exact rfl); exact Les.refl _; exact rfl; exact rfl) | fail)
  exact wkr
 ·rw [h1] at hs
  rw [h2]
  have hx := at_decl hk
  generalize vars[k] = d at *
  unfold declC at hx
  refine Sound.of tabOk Tryz.func53 (by kernel_rfl) rfl rfl ?_
  repeat' (first | refine wkt ?_ | refine wka ?_ | refine wk ?_ | exact wkc | intro hc | refine wk2 ?_ ?_ | (apply TO.callV hs; (iterate 3 exact rfl); exact Les.refl _; exact rfl; exact rfl) | fail)
  exact wkr
theorem findKR_sound (vars : List Decl) (hl : vars.length ≤ 1000000000) (nm : Str) : Pure Tryz.prog 57 [.t (declsT vars), .s nm] (.tup [.t (declT (findZ vars nm)), .b (findD vars nm).isSome]) := by
 have hml : (vars.map declT).length = vars.length := List.length_map _
 unfold findZ
 refine Sound.of tabOk Tryz.func57 (by kernel_rfl) rfl rfl ?_
 repeat' (first | refine wkt ?_ | refine wk ?_ | exact wkc | intro hc | refine wk2 ?_ ?_ | fail)
 refine TR.loopN vars.length (fun k => findD (vars.take k) nm = none) (fun k => [(0, .t (declsT vars)), (1, .s nm), (4, .ref 0 0), (6, .i k)]) (fun k => [.cells [.s [], .i 0, .t (.v (.slice none 0 0))]]) rfl (fun k hlt ha => ?_) (fun ha => ?_)
 ·have hx := at_decl hlt
  have g := findD_at hlt ha
  generalize vars[k] = d at *
  unfold declC at hx
  repeat' (first | refine wkt ?_ | refine wk ?_ | exact wkc | intro hc | refine wk2 ?_ ?_ | fail)
  ·rw [g.1 hc]
   exact wkr
  ·exact LoopK.nextN hlt (g.2 hc)
 ·rw [List.take_length] at ha
  rw [ha]
  repeat' (first | refine wkt ?_ | refine wk ?_ | exact wkc | intro hc | refine wk2 ?_ ?_ | fail)
  exact wkr
theorem on_sound (vars : List Decl) (hl : vars.length ≤ 1000000000) (hk : ∀ d ∈ vars, SmallK d.clock) (nm : Str) (ck : List OnC) (hck : SmallK ck) : Pure Tryz.prog 92 [.t (.ag (chkC vars)), .s nm, .t (onsT ck)] (.b (onX vars nm ck)) := by
 have hf := findK_sound vars hl nm
 unfold findZ at hf
 unfold onX
 cases hd : findD vars nm with
 | none =>
   rw [hd] at hf
   refine Sound.of tabOk Tryz.func92 (by kernel_rfl) rfl rfl ?_
   repeat' (first | refine wkt ?_ | refine wka ?_ | refine wk ?_ | exact wkc | intro hc | refine wk2 ?_ ?_ | refine wv hf ?_ | fail)
   exact wkr
 | some d =>
   rw [hd] at hf
   have hs := sameK_sound d.clock ck (hk d (findD_mem hd).1) hck
   simp only [Option.getD_some, Option.isSome_some] at hf ⊢
   have hdT : declT d = .ag [.s d.name, T.n d.ty, onsT d.clock] := rfl
   rw [hdT] at hf
   generalize decide (d.clock = ck) = z at *
   refine Sound.of tabOk Tryz.func92 (by kernel_rfl) rfl rfl ?_
   repeat' (first | refine wkt ?_ | refine wka ?_ | refine wk ?_ | exact wkc | intro hc | refine wk2 ?_ ?_ | refine wv hf ?_ | refine wv hs ?_ | fail)
   exact wkr
abbrev strsT (l : List Str) : T := .sl 1 (l.map T.s)
theorem at_strs {l : List Str} {k : Nat} (h : k < l.length) : (l.map T.s)[k]? = some (T.s l[k]) := by simp [h]
theorem has6_sound (l : List Str) (s : Str) (hl : l.length ≤ 2000000000) : Pure Tryz.prog 75 [.t (strsT l), .s s] (.b (decide (s ∈ l))) := by
 have hml : (l.map T.s).length = l.length := List.length_map _
 refine Sound.of tabOk Tryz.func75 (by kernel_rfl) rfl rfl ?_
 repeat' (first | refine wk ?_ | exact wkc | intro hc | refine wk2 ?_ ?_ | fail | fail)
 refine TR.loopN l.length (fun k => s ∉ l.take k) (fun k => [(0, .t (strsT l)), (1, .s s), (5, .i k)]) (fun _ => []) (by simp) (fun k hlt hk => ?_) (fun hk => ?_)
 ·have hx := at_strs hlt
  have htk := take_at hlt
  have hm : l[k] ∈ l := List.getElem_mem hlt
  generalize l[k] = x at *
  repeat' (first | refine wk ?_ | exact wkc | intro hc | refine wk2 ?_ ?_ | fail | fail)
  ·rw [decide_eq_true (show s ∈ l from by rw [← hc]; exact hm)]; exact wkr
  ·refine LoopK.nextN hlt ?_
   rw [htk, List.mem_append]
   rintro (h | h)
   ·exact hk h
   ·have h' : s = x := by simpa using h
    exact hc h'.symm
 ·rw [List.take_length] at hk
  rw [decide_eq_false hk]
  repeat' (first | refine wk ?_ | exact wkc | intro hc | refine wk2 ?_ ?_ | fail | fail)
  exact wkr
theorem variable_sound (e : Ex) : Pure Tryz.prog 101 [.t (.ag (exC e))] (.b (isVar e)) := by
 unfold isVar exC
 refine Sound.of tabOk Tryz.func101 (by kernel_rfl) rfl rfl ?_
 repeat' (first | refine wkt ?_ | refine wk ?_ | exact wkc | intro hc | refine wk2 ?_ ?_ | fail)
 all_goals
  refine RetK.pure rfl (Le.of_eq ?_) rfl
  refine congrArg (fun b => SV.t (T.v (Value.bool b))) ?_
  simp; omega
theorem variableR6_sound (e : Ex) : Pure Tryz.prog 158 [.t (.ag (exC e))] (.b (isVar e)) := by
 unfold isVar exC
 refine Sound.of tabOk Tryz.func158 (by kernel_rfl) rfl rfl ?_
 repeat' (first | refine wkt ?_ | refine wk ?_ | exact wkc | intro hc | refine wk2 ?_ ?_ | fail)
 all_goals
  refine RetK.pure rfl (Le.of_eq ?_) rfl
  refine congrArg (fun b => SV.t (T.v (Value.bool b))) ?_
  simp; omega
theorem addN_len (l : List Str) (e : Ex) : (addN l e).length ≤ l.length + 1 := by
 unfold addN; split <;> simp
theorem foldN_len : ∀ (es : List Ex) (l : List Str), (es.foldl addN l).length ≤ l.length + es.length
 | [], l => by simp
 | e :: es, l => by
   have := foldN_len es (addN l e)
   have := addN_len l e
   simp only [List.foldl_cons, List.length_cons]; omega
theorem namesX_take (acc : List Str) (l : List Ex) {j : Nat} (h : j < l.length) : (flats (l.take (j + 1))).foldl addN acc = namesX ((flats (l.take j)).foldl addN acc) l[j] := by
 rw [flats_take l h, List.foldl_append]; rfl
set_option maxHeartbeats 1000000 in
theorem namesE_sound' : ∀ (m : Nat) (e : Ex) (acc : List Str), wEx e ≤ m → acc.length + wEx e ≤ 1000000000 →
  Sound Tryz.prog 62 [.sl 1 (acc.map T.s) 0, .t (.ag (exC e)), .b false] [.tail (acc.map T.s).length] (fun r H' => r = .ret (.sl 1 ((namesX acc e).map T.s) 0) ∧ H' = [.tail ((namesX acc e).map T.s).length]) := by
 intro m
 induction m with
 | zero => intro e _ he; have := wEx_pos e; omega
 | succ m ih0 =>
   intro e acc he hb
   have ih := fun x (hx : x ∈ e.args) (acc : List Str) (hb : acc.length + wEx x ≤ 1000000000) => ih0 x acc (by have := wEx_arg hx; omega) hb
   clear ih0
   have hfl : (flats e.args).length + 1 = wEx e := by rw [← flat_len, flat_eq, List.length_cons]
   have hll := wEx_args e
   have hv := variable_sound e
   have hc := containsS_sound acc (by omega) e.name
   have hnx : namesX acc e = (flats e.args).foldl addN (addN acc e) := by unfold namesX; rw [flat_eq]; rfl
   rw [hnx]
   clear hnx
   have had := addN_len acc e
   have hma : (acc.map T.s).length = acc.length := List.length_map _
   have hadd : addN acc e = if isVar e = true ∧ e.name ∉ acc then acc ++ [e.name] else acc := rfl
   generalize addN acc e = ac1 at *
   unfold exC at *
   generalize e.args = l at *
   have hml : (l.map exT).length = l.length := List.length_map _
   by_cases hp : isVar e = true ∧ e.name ∉ acc
   rw [if_pos hp] at hadd
   rw [hp.1] at hv
   rw [decide_eq_false hp.2] at hc
   have hmp : ac1.map T.s = acc.map T.s ++ [T.s e.name] := by rw [hadd]; simp
   refine Sound.of tabOk Tryz.func62 (by kernel_rfl) rfl rfl ?_
   repeat' (first | refine wkt ?_ | refine wk ?_ | exact wkc | intro hc | refine wk2 ?_ ?_ | refine wv hv ?_ | refine wv hc ?_ | fail)
   rotate_left
   rw [if_neg hp] at hadd
   subst hadd
   have hmp : ac1.map T.s = ac1.map T.s := rfl
   by_cases hvv : isVar e = true
   rw [hvv] at hv
   rw [decide_eq_true (show e.name ∈ ac1 from Classical.byContradiction fun h => hp ⟨hvv, h⟩)] at hc
   refine Sound.of tabOk Tryz.func62 (by kernel_rfl) rfl rfl ?_
   repeat' (first | refine wkt ?_ | refine wk ?_ | exact wkc | intro hc | refine wk2 ?_ ?_ | refine wv hv ?_ | refine wv hc ?_ | fail)
   rotate_left
   rw [Bool.not_eq_true] at hvv
   rw [hvv] at hv
   refine Sound.of tabOk Tryz.func62 (by kernel_rfl) rfl rfl ?_
   repeat' (first | refine wkt ?_ | refine wk ?_ | exact wkc | intro hc | refine wk2 ?_ ?_ | refine wv hv ?_ | fail)
   all_goals
    have h0 : (flats (l.take 0)).foldl addN ac1 = ac1 := by simp [flats]
    refine TR.loopN l.length (fun _ => True) (fun j => [(0, .sl 1 (((flats (l.take j)).foldl addN ac1).map T.s) 0), (2, .b false), (4, .cp [T.n e.kind, T.n e.op, T.n e.t, T.n e.v, .s e.name, .sl 6 (l.map exT)] 0), (24, .t (.sl 6 (l.map exT))), (25, .i (l.map exT).length), (26, .i j)]) (fun j => [.tail (((flats (l.take j)).foldl addN ac1).map T.s).length]) trivial (fun j hlt _ => ?_) (fun _ => ?_) (by (try dsimp only); rw [h0, hmp]; exact ⟨rfl, rfl, rfl, rfl, rfl, rfl, trivial⟩) (by (try dsimp only); rw [h0, hmp]; try first | rfl | (rw [List.length_append]; rfl))
    ·have hx := at_exT hlt
     have hd := foldN_len (flats (l.take j)) ac1
     have h2 := congrArg List.length (flats_split l hlt)
     rw [List.length_append, List.length_append, flat_len] at h2
     have hs := ih l[j] (List.getElem_mem hlt) ((flats (l.take j)).foldl addN ac1) (by omega)
     have htk := namesX_take ac1 l hlt
     generalize l[j] = x at hx hs htk
     unfold exC at hx
     repeat' (first | refine wkt ?_ | refine wka ?_ | refine wk ?_ | exact wkc | intro hc | refine wk2 ?_ ?_ | refine wd hs ?_ | fail)
     exact LoopK.nextN hlt trivial (by (try dsimp only); rw [htk]; exact ⟨rfl, rfl, rfl, rfl, rfl, rfl, trivial⟩) (by (try dsimp only); rw [htk])
    ·rw [List.take_length]
     repeat' (first | refine wkt ?_ | refine wk ?_ | exact wkc | intro hc | refine wk2 ?_ ?_ | fail)
     exact RetK.at 1 rfl (Le.refl _) (Nat.le_refl _) rfl rfl rfl ⟨rfl, rfl⟩
set_option maxHeartbeats 1000000 in
theorem namesR_sound' : ∀ (m : Nat) (e : Ex) (acc : List Str), wEx e ≤ m → acc.length + wEx e ≤ 1000000000 →
  Sound Tryz.prog 98 [.t (.ag (exC e)), .b false, .sl 1 (acc.map T.s) 0] [.tail (acc.map T.s).length] (fun r H' => r = .ret (.sl 1 ((namesX acc e).map T.s) 0) ∧ H' = [.tail ((namesX acc e).map T.s).length]) := by
 intro m
 induction m with
 | zero => intro e _ he; have := wEx_pos e; omega
 | succ m ih0 =>
   intro e acc he hb
   have ih := fun x (hx : x ∈ e.args) (acc : List Str) (hb : acc.length + wEx x ≤ 1000000000) => ih0 x acc (by have := wEx_arg hx; omega) hb
   clear ih0
   have hfl : (flats e.args).length + 1 = wEx e := by rw [← flat_len, flat_eq, List.length_cons]
   have hll := wEx_args e
   have hv := variableR6_sound e
   have hc := has6_sound acc e.name (by omega)
   have hnx : namesX acc e = (flats e.args).foldl addN (addN acc e) := by unfold namesX; rw [flat_eq]; rfl
   rw [hnx]
   clear hnx
   have had := addN_len acc e
   have hma : (acc.map T.s).length = acc.length := List.length_map _
   have hadd : addN acc e = if isVar e = true ∧ e.name ∉ acc then acc ++ [e.name] else acc := rfl
   generalize addN acc e = ac1 at *
   unfold exC at *
   generalize e.args = l at *
   have hml : (l.map exT).length = l.length := List.length_map _
   by_cases hp : isVar e = true ∧ e.name ∉ acc
   rw [if_pos hp] at hadd
   rw [hp.1] at hv
   rw [decide_eq_false hp.2] at hc
   have hmp : ac1.map T.s = acc.map T.s ++ [T.s e.name] := by rw [hadd]; simp
   refine Sound.of tabOk Tryz.func98 (by kernel_rfl) rfl rfl ?_
   repeat' (first | refine wkt ?_ | refine wk ?_ | exact wkc | intro hc | refine wk2 ?_ ?_ | refine wv hv ?_ | refine wv hc ?_ | fail)
   rotate_left
   rw [if_neg hp] at hadd
   subst hadd
   have hmp : ac1.map T.s = ac1.map T.s := rfl
   by_cases hvv : isVar e = true
   rw [hvv] at hv
   rw [decide_eq_true (show e.name ∈ ac1 from Classical.byContradiction fun h => hp ⟨hvv, h⟩)] at hc
   refine Sound.of tabOk Tryz.func98 (by kernel_rfl) rfl rfl ?_
   repeat' (first | refine wkt ?_ | refine wk ?_ | exact wkc | intro hc | refine wk2 ?_ ?_ | refine wv hv ?_ | refine wv hc ?_ | fail)
   rotate_left
   rw [Bool.not_eq_true] at hvv
   rw [hvv] at hv
   refine Sound.of tabOk Tryz.func98 (by kernel_rfl) rfl rfl ?_
   repeat' (first | refine wkt ?_ | refine wk ?_ | exact wkc | intro hc | refine wk2 ?_ ?_ | refine wv hv ?_ | fail)
   all_goals
    have h0 : (flats (l.take 0)).foldl addN ac1 = ac1 := by simp [flats]
    refine TR.loopN l.length (fun _ => True) (fun j => [(1, .b false), (2, .sl 1 (((flats (l.take j)).foldl addN ac1).map T.s) 0), (3, .cp [T.n e.kind, T.n e.op, T.n e.t, T.n e.v, .s e.name, .sl 6 (l.map exT)] 0), (7, .i j)]) (fun j => [.tail (((flats (l.take j)).foldl addN ac1).map T.s).length]) trivial (fun j hlt _ => ?_) (fun _ => ?_) (by (try dsimp only); rw [h0, hmp]; exact ⟨rfl, rfl, rfl, rfl, trivial⟩) (by (try dsimp only); rw [h0, hmp]; try first | rfl | (rw [List.length_append]; rfl))
    ·have hx := at_exT hlt
     have hd := foldN_len (flats (l.take j)) ac1
     have h2 := congrArg List.length (flats_split l hlt)
     rw [List.length_append, List.length_append, flat_len] at h2
     have hs := ih l[j] (List.getElem_mem hlt) ((flats (l.take j)).foldl addN ac1) (by omega)
     have htk := namesX_take ac1 l hlt
     generalize l[j] = x at hx hs htk
     unfold exC at hx
     repeat' (first | refine wkt ?_ | refine wka ?_ | refine wk ?_ | exact wkc | intro hc | refine wk2 ?_ ?_ | refine wd hs ?_ | fail)
     exact LoopK.nextN hlt trivial (by (try dsimp only); rw [htk]; exact ⟨rfl, rfl, rfl, rfl, trivial⟩) (by (try dsimp only); rw [htk])
    ·rw [List.take_length]
     repeat' (first | refine wkt ?_ | refine wk ?_ | exact wkc | intro hc | refine wk2 ?_ ?_ | fail)
     exact RetK.at 1 rfl (Le.refl _) (Nat.le_refl _) rfl rfl rfl ⟨rfl, rfl⟩
theorem namesE_sound (e : Ex) (h : wEx e ≤ 1000000000) : Pure Tryz.prog 29 [.t (.ag (exC e))] (.t (.sl 1 ((namesX [] e).map T.s))) := by
 have hs : Pure Tryz.prog 62 [.t (.v (.slice none 0 0)), .t (.ag (exC e)), .b false] (.t (.sl 1 ((namesX [] e).map T.s))) := Sound.own (Sound.fresh (pre := []) (post := [.t (.ag (exC e)), .b false]) (namesE_sound' _ e [] (Nat.le_refl _) (by simpa using h)))
 unfold exC at *
 refine Sound.of tabOk Tryz.func29 (by kernel_rfl) rfl rfl ?_
 repeat' (first | refine wkt ?_ | refine wk ?_ | exact wkc | intro hc | refine wk2 ?_ ?_ | refine wv hs ?_ | fail)
 exact wkr
theorem namesR_sound (e : Ex) (h : wEx e ≤ 1000000000) : Pure Tryz.prog 56 [.t (.ag (exC e))] (.t (.sl 1 ((namesX [] e).map T.s))) := by
 have hs : Pure Tryz.prog 98 [.t (.ag (exC e)), .b false, .t (.v (.slice none 0 0))] (.t (.sl 1 ((namesX [] e).map T.s))) := Sound.own (Sound.fresh (pre := [.t (.ag (exC e)), .b false]) (post := []) (namesR_sound' _ e [] (Nat.le_refl _) (by simpa using h)))
 unfold exC at *
 refine Sound.of tabOk Tryz.func56 (by kernel_rfl) rfl rfl ?_
 repeat' (first | refine wkt ?_ | refine wk ?_ | exact wkc | intro hc | refine wk2 ?_ ?_ | refine wv hs ?_ | fail)
 exact wkr
end Go.Proofs.YtlocalghkiepmaaGreat
