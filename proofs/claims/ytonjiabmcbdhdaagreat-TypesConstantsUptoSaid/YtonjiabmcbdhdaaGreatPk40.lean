import Derived.DeepKeys
import Derived.Test.YtonjiabmcbdhdaaGreatPk20
import Derived.Test.YtonjiabmcbdhdaaGreatPk23
import Derived.Test.YtonjiabmcbdhdaaGreatPk28
import Derived.Test.YtonjiabmcbdhdaaGreatPk39
set_option linter.unusedSimpArgs false
set_option linter.unusedVariables false
namespace Go.TL
open Go
inductive TLs : T → T → Prop
 | refl (t : T) : TLs t t
 | nil (sz : Nat) : TLs (.v (.slice none 0 0)) (.sl sz [])
 | ag (cs ds : List T) (h : cs.length = ds.length) (hl : ∀ (i : Nat) c d, cs[i]? = some c → ds[i]? = some d → TLs c d) : TLs (.ag cs) (.ag ds)
 | sl (sz : Nat) (cs ds : List T) (h : cs.length = ds.length) (hl : ∀ (i : Nat) c d, cs[i]? = some c → ds[i]? = some d → TLs c d) : TLs (.sl sz cs) (.sl sz ds)
theorem TLs.both {A : Foot} {w : World} {a b : T} (h : TLs a b) : (∀ x, TRel A w a x → TRel A w b x) ∧ a.cells.length = b.cells.length ∧ ∀ (j : Nat) c d, a.cells[j]? = some c → b.cells[j]? = some d → ∀ x, TRel A w c x → TRel A w d x := by
 have one : ∀ (a b : T), (∀ x, TRel A w a x → TRel A w b x) → ∀ (j : Nat) c d, [a][j]? = some c → [b][j]? = some d → ∀ x, TRel A w c x → TRel A w d x := by
  intro a b h j c d hc hd
  cases j with
  | zero => simp at hc hd; subst hc; subst hd; exact h
  | succ j => simp at hc
 induction h with
 | refl t => exact ⟨fun _ h => h, rfl, fun j c d hc hd => by rw [hc] at hd; cases hd; exact fun _ h => h⟩
 | nil sz =>
   have h1 : ∀ x, TRel A w (.v (.slice none 0 0)) x → TRel A w (.sl sz []) x := by intro x h; cases h; exact .nil sz
   exact ⟨h1, rfl, one _ _ h1⟩
 | ag cs ds hl _ ih =>
   refine ⟨?_, hl, fun j c d hc hd => (ih j c d hc hd).1⟩
   intro x h
   cases h with
   | ag _ arr hs h1 hr =>
     refine .ag _ _ (by omega) h1 fun i d y hd hy => ?_
     have hi := (List.getElem?_eq_some_iff.1 hd).1
     have hc : cs[i]? = some (cs[i]'(by omega)) := List.getElem?_eq_getElem _
     exact (ih i _ d hc hd).1 y (hr i _ y hc hy)
 | sl sz cs ds hl _ ih =>
   have h1 : ∀ x, TRel A w (.sl sz cs) x → TRel A w (.sl sz ds) x := by
    intro x h
    generalize hq : T.sl sz cs = q at h
    cases h with
    | v x => cases hq
    | ag => cases hq
    | nil sz' => cases hq; have : ds = [] := List.eq_nil_of_length_eq_zero (by simpa using hl.symm); subst this; exact .nil _
    | empty sz' a => cases hq; have : ds = [] := List.eq_nil_of_length_eq_zero (by simpa using hl.symm); subst this; exact .empty _ a
    | sl sz' es b off cap f hcap hsz hA hw h1 hr =>
      cases hq
      rw [hl]
      refine .sl sz ds b off cap f (by omega) (fun i d hd => ?_) (by rw [← hl]; exact hA) (by rw [← hl]; exact hw) (by rw [← hl]; exact h1) (fun i d j c' hd hc' => ?_)
      ·have hi := (List.getElem?_eq_some_iff.1 hd).1
       have hc : cs[i]? = some (cs[i]'(by omega)) := List.getElem?_eq_getElem _
       rw [← (ih i _ d hc hd).2.1]; exact hsz i _ hc
      ·have hi := (List.getElem?_eq_some_iff.1 hd).1
       have hc : cs[i]? = some (cs[i]'(by omega)) := List.getElem?_eq_getElem _
       have hj := (List.getElem?_eq_some_iff.1 hc').1
       have hl2 := (ih i _ d hc hd).2.1
       have hcc : (cs[i]'(by omega)).cells[j]? = some ((cs[i]'(by omega)).cells[j]'(by omega)) := List.getElem?_eq_getElem _
       exact (ih i _ d hc hd).2.2 j _ c' hcc hc' _ (hr i _ j _ hc hcc)
   exact ⟨h1, rfl, one _ _ h1⟩
theorem Le.treeS {s : SV} {t u : T} (h : s.toT = some t) (k : TLs t u) : Le s (.t u) := fun _ _ hx => .t _ _ (k.both.1 _ (hx.toT h))
def TLss : List T → List T → Prop
 | [], [] => True
 | a :: aas, b :: bs => TLs a b ∧ TLss aas bs
 | _, _ => False
theorem TLss.get : ∀ {cs ds : List T}, TLss cs ds → cs.length = ds.length ∧ ∀ (i : Nat) c d, cs[i]? = some c → ds[i]? = some d → TLs c d
 | [], [], _ => ⟨rfl, by simp⟩
 | a :: aas, b :: bs, h => by
   have ih := TLss.get h.2
   exact ⟨by simp [ih.1], fun i c d hc hd => by cases i with | zero => simp at hc hd; subst hc; subst hd; exact h.1 | succ i => exact ih.2 i c d (by simpa using hc) (by simpa using hd)⟩
theorem TLs.agL {cs ds : List T} (h : TLss cs ds) : TLs (.ag cs) (.ag ds) := .ag _ _ h.get.1 h.get.2
theorem TLs.slL {sz : Nat} {cs ds : List T} (h : TLss cs ds) : TLs (.sl sz cs) (.sl sz ds) := .sl _ _ _ h.get.1 h.get.2
end Go.TL
namespace Go.Proofs.YtonjiabmcbdhdaaGreat
open Go Go.TL
attribute [local irreducible] TR TO Then InBlock RetK Sound LoopK Kf GG ThenL
def i64 (k : Int) (h : -9223372036854775808 ≤ k ∧ k ≤ 9223372036854775807 := by decide) : I64 := ⟨k, h⟩
def smplE : Ex := .mk (i64 1) (i64 0) (i64 2) (i64 1) [] []
def smplN : Nod := ⟨[102], [⟨[97], i64 2, []⟩], [⟨[120], i64 1, []⟩], [], [⟨[[120]], smplE⟩], [], [], []⟩
def smpl : Prog := ⟨[], [smplN]⟩
theorem sample_sound : Pure Tryz.prog 31 [] (.t (.ag (progC smpl))) := by
 refine Sound.of tabOk Tryz.func31 (by kernel_rfl) rfl rfl ?_
 repeat' (first | refine wkt ?_ | refine wk ?_ | exact wkc | intro hc | refine wk2 ?_ ?_ | fail | fail)
 refine RetK.pure rfl (Le.treeS rfl ?_) rfl
 repeat' (first | exact trivial | exact TLs.refl _ | exact TLs.nil _ | refine TLs.agL ?_ | refine TLs.slL ?_ | refine And.intro ?_ ?_ | fail)
theorem same_sound (a b : List Int) (ha : a.length ≤ 1000000000) : Pure Tryz.prog 14 [.t (intsT a), .t (intsT b)] (.b (decide (a = b))) := by
 have hma : (a.map T.i).length = a.length := List.length_map _
 have hmb : (b.map T.i).length = b.length := List.length_map _
 by_cases hl : a.length = b.length
 ·refine Sound.of tabOk Tryz.func14 (by kernel_rfl) rfl rfl ?_
  repeat' (first | refine wk ?_ | exact wkc | intro hc | refine wk2 ?_ ?_ | fail | fail)
  all_goals try (exfalso; omega)
  refine TR.loopN a.length (fun k => a.take k = b.take k) (fun k => [(0, .t (intsT a)), (1, .t (intsT b)), (5, .i k)]) (fun _ => []) rfl (fun k hlt hk => ?_) (fun hk => ?_)
  ·have hx := at_ints hlt
   have hy := at_ints (l := b) (show k < b.length by omega)
   have h1 := take_at hlt
   have h2 := take_at (l := b) (show k < b.length by omega)
   have hne : a[k] ≠ b[k]'(by omega) → a ≠ b := fun h e => h (by subst e; rfl)
   generalize a[k] = u at *
   generalize b[k]'(by omega) = v at *
   repeat' (first | refine wk ?_ | exact wkc | intro hc | refine wk2 ?_ ?_ | fail | fail)
   ·rw [decide_eq_false (hne hc)]; exact wkr
   ·refine LoopK.nextN hlt ?_
    rw [h1, h2, hk, Classical.byContradiction hc]
  ·rw [List.take_length, hl, List.take_length] at hk
   rw [decide_eq_true hk]
   repeat' (first | refine wk ?_ | exact wkc | intro hc | refine wk2 ?_ ?_ | fail | fail)
   exact wkr
 ·rw [decide_eq_false (fun e => hl (by rw [e]))]
  refine Sound.of tabOk Tryz.func14 (by kernel_rfl) rfl rfl ?_
  repeat' (first | refine wk ?_ | exact wkc | intro hc | refine wk2 ?_ ?_ | fail | fail)
  all_goals first
   | exact wkr
   | (exfalso; omega)
def exA' : Ex := .mk (i64 2) (i64 0) (i64 0) (i64 0) [97] []
def ex1 : Ex := .mk (i64 1) (i64 0) (i64 2) (i64 1) [] []
def exY : Ex := .mk (i64 1) (i64 0) (i64 1) (i64 1) [] []
def exQ : Ex := .mk (i64 3) (i64 11) (i64 0) (i64 0) [] [exA', ex1]
def exN : Ex := .mk (i64 3) (i64 3) (i64 0) (i64 0) [] [exA', exY]
theorem flat_leaf (k o t v : I64) (n : Str) : flat (.mk k o t v n []) = [.mk k o t v n []] := by rw [flat_eq]; rfl
theorem wEx_leaf (k o t v : I64) (n : Str) : wEx (.mk k o t v n []) = 1 := by rw [wEx_eq]; rfl
theorem dep_leaf (k o t v : I64) (n : Str) : exDepth (.mk k o t v n []) ≤ 32 := by rw [exDepth_eq]; show (0 : Int) + 1 ≤ 32; decide
theorem exprX_leaf (es : List En) (k o t v : I64) (n : Str) (h1 : oneX (.mk k o t v n []) = 0) (h2 : insX es (.mk k o t v n []) = 0) : exprX es (.mk k o t v n []) = 0 := by
 have hd := dep_leaf k o t v n
 unfold exprX checkX
 rw [flat_leaf, wEx_leaf]
 simp [firstE, h1, h2]; omega
theorem e0 : exprX [] smplE = 0 := exprX_leaf _ _ _ _ _ _ (by decide +kernel) (by decide +kernel)
theorem e1 : equE [] ⟨[[120]], smplE⟩ = 0 := by unfold equE; rw [show exprX [] (Equ.mk [[120]] smplE).right = 0 from e0]; decide +kernel
theorem e2 : nodeX [] smplN = (-1, 0) := by
 have h : firstE (equE []) smplN.eqs = 0 := by show firstE (equE []) [⟨[[120]], smplE⟩] = 0; unfold firstE; rw [e1]; rfl
 unfold nodeX
 rw [h]; decide +kernel
theorem e3 : shapeX smpl = ((0, 0), 0) := by
 have h : firstE (fun n => (nodeX smpl.enums n).2) smpl.nodes = 0 := by
  show firstE _ [smplN] = 0
  unfold firstE
  rw [show nodeX smpl.enums smplN = (-1, 0) from e2]; rfl
 unfold shapeX
 rw [h]; decide +kernel
theorem e4 : scopeX smpl = ((0, 0), 0) := by unfold scopeX; rw [e3]; decide +kernel
theorem e5 (w : Plc) : resT w false smplE = ([2], 0) := by rw [resT_eq]; rfl
theorem e6 : eqnT ⟨smpl, nI 0, varsL smplN⟩ ⟨[[120]], smplE⟩ = 10 := by
 unfold eqnT
 rw [show resT ⟨smpl, nI 0, varsL smplN⟩ false (Equ.mk [[120]] smplE).right = ([2], 0) from e5 _]; decide +kernel
theorem e7 : nodG smpl (smplN, 0) = (0, 10) := by
 have h : firstE (eqnT ⟨smpl, nI 0, varsL smplN⟩) smplN.eqs = 10 := by show firstE _ [Equ.mk [[120]] smplE] = 10; unfold firstE; rw [e6]; rfl
 have h2 : firstI (eqnT ⟨smpl, nI 0, varsL smplN⟩) smplN.eqs = (0, 10) := by show firstI _ [Equ.mk [[120]] smplE] = (0, 10); unfold firstI; rw [e6]; rfl
 show nodeTy ⟨smpl, nI 0, varsL smplN⟩ smplN = _
 unfold nodeTy
 rw [h, h2]; rfl
theorem tySmpl : typesX smpl = ((0, 0), 10) := by
 unfold typesX
 rw [e4]
 show tyNods smpl [(smplN, 0)] = _
 unfold tyNods
 rw [e7]; rfl
theorem flat_two (k o t v k1 o1 t1 v1 k2 o2 t2 v2 : I64) (n n1 n2 : Str) : flat (.mk k o t v n [.mk k1 o1 t1 v1 n1 [], .mk k2 o2 t2 v2 n2 []]) = [.mk k o t v n [.mk k1 o1 t1 v1 n1 [], .mk k2 o2 t2 v2 n2 []], .mk k1 o1 t1 v1 n1 [], .mk k2 o2 t2 v2 n2 []] := by
 rw [flat_eq]
 simp [flats, Ex.args, flat_leaf]
theorem wEx_two (k o t v k1 o1 t1 v1 k2 o2 t2 v2 : I64) (n n1 n2 : Str) : wEx (.mk k o t v n [.mk k1 o1 t1 v1 n1 [], .mk k2 o2 t2 v2 n2 []]) = 3 := by
 rw [wEx_eq]; simp [Ex.args, wEx_leaf]
theorem dep_two (k o t v k1 o1 t1 v1 k2 o2 t2 v2 : I64) (n n1 n2 : Str) : exDepth (.mk k o t v n [.mk k1 o1 t1 v1 n1 [], .mk k2 o2 t2 v2 n2 []]) ≤ 32 := by
 have h1 := dep_leaf k1 o1 t1 v1 n1
 have h2 := dep_leaf k2 o2 t2 v2 n2
 have e1 : exDepth (.mk k1 o1 t1 v1 n1 []) = 1 := by rw [exDepth_eq]; rfl
 have e2 : exDepth (.mk k2 o2 t2 v2 n2 []) = 1 := by rw [exDepth_eq]; rfl
 rw [exDepth_eq]; simp [Ex.args, e1, e2]; decide
theorem exprX_two (es : List En) (k o t v k1 o1 t1 v1 k2 o2 t2 v2 : I64) (n n1 n2 : Str) (h : firstE oneX [.mk k o t v n [.mk k1 o1 t1 v1 n1 [], .mk k2 o2 t2 v2 n2 []], .mk k1 o1 t1 v1 n1 [], .mk k2 o2 t2 v2 n2 []] = 0)
  (h2 : firstE (insX es) [.mk k o t v n [.mk k1 o1 t1 v1 n1 [], .mk k2 o2 t2 v2 n2 []], .mk k1 o1 t1 v1 n1 [], .mk k2 o2 t2 v2 n2 []] = 0) : exprX es (.mk k o t v n [.mk k1 o1 t1 v1 n1 [], .mk k2 o2 t2 v2 n2 []]) = 0 := by
 have hd := dep_two k o t v k1 o1 t1 v1 k2 o2 t2 v2 n n1 n2
 unfold exprX checkX
 rw [flat_two, wEx_two, h, h2]
 simp; omega
theorem res_leaf (w : Plc) (b : Bool) (k o t v : I64) (n : Str) : resT w b (.mk k o t v n []) = kindT w (.mk k o t v n []) [] b := by rw [resT_eq]; rfl
theorem res_two (w : Plc) (b : Bool) (k o t v k1 o1 t1 v1 k2 o2 t2 v2 : I64) (n n1 n2 : Str) : resT w b (.mk k o t v n [.mk k1 o1 t1 v1 n1 [], .mk k2 o2 t2 v2 n2 []]) =
  if (heads [kindT w (.mk k1 o1 t1 v1 n1 []) [] true, kindT w (.mk k2 o2 t2 v2 n2 []) [] true]).2 ≠ 0 then ([], (heads [kindT w (.mk k1 o1 t1 v1 n1 []) [] true, kindT w (.mk k2 o2 t2 v2 n2 []) [] true]).2)
  else kindT w (.mk k o t v n [.mk k1 o1 t1 v1 n1 [], .mk k2 o2 t2 v2 n2 []]) (heads [kindT w (.mk k1 o1 t1 v1 n1 []) [] true, kindT w (.mk k2 o2 t2 v2 n2 []) [] true]).1 b := by
 rw [resT_eq, show (Ex.mk k o t v n [.mk k1 o1 t1 v1 n1 [], .mk k2 o2 t2 v2 n2 []]).args = [.mk k1 o1 t1 v1 n1 [], .mk k2 o2 t2 v2 n2 []] from rfl]
 simp only [List.map_cons, List.map_nil, res_leaf]
theorem ofQ : ofT smpl (i64 0) exQ = ([1], 0) := by
 have h : exprX smpl.enums exQ = 0 := exprX_two _ _ _ _ _ _ _ _ _ _ _ _ _ _ _ _ (by decide +kernel) (by decide +kernel)
 have h2 : resT ⟨smpl, i64 0, varsL smplN⟩ false exQ = ([1], 0) := by
  show resT _ false (.mk _ _ _ _ _ [.mk _ _ _ _ _ [], .mk _ _ _ _ _ []]) = _
  rw [res_two]; decide +kernel
 unfold ofT
 rw [if_neg (by decide), h, if_neg (by decide)]
 exact h2
theorem ofN : ofT smpl (i64 0) exN = ([], 10) := by
 have h : exprX smpl.enums exN = 0 := exprX_two _ _ _ _ _ _ _ _ _ _ _ _ _ _ _ _ (by decide +kernel) (by decide +kernel)
 have h2 : resT ⟨smpl, i64 0, varsL smplN⟩ false exN = ([], 10) := by
  show resT _ false (.mk _ _ _ _ _ [.mk _ _ _ _ _ [], .mk _ _ _ _ _ []]) = _
  rw [res_two]; decide +kernel
 unfold ofT
 rw [if_neg (by decide), h, if_neg (by decide)]
 exact h2
theorem ofA : ofT smpl (i64 1) exA' = ([], 2) := by decide +kernel
end Go.Proofs.YtonjiabmcbdhdaaGreat
namespace Go.TL
open Go
section rules
variable {P : Program} {n : Nat} {env : Env} {H : Heap} {K : TK} {all : Array Oper} {rest : List Oper} {tab : Tab} {q : Bool}
variable {d : Nat} {ty : TypeId} {pos : String} {aft : Array Edge}
theorem TO.eqSame {t t' : TypeId} {x y : Operand} {sx sy : SV} {arr : Array Value} {m : Nat} (hd : Nat.ble (d + 1) n = true) (hm : Nat.ble m 10000 = true) (hk : P.keyTypeAt m t = true)
  (hwide : (match P.underlying t with | some (.array _ _) | some (.struct _) => true | _ => false) = true) (hg : P.eqGuardType P.depth t = false)
  (hx : env.val x = some sx) (hux : ∀ m v, SRel m sx v → v = .agg arr) (hy : env.val y = some sy) (huy : ∀ m v, SRel m sy v → v = .agg arr) (hl : ∃ l, keyOf P t (.agg arr) = some l)
  (k : TO q P n all rest ((d, .b true) :: env) H K) : TO q P n all (⟨some d, .binOp .eql t x y t', ty, pos, aft, none⟩ :: rest) env H K :=
 TO.op hd (fun m ac h1 h2 h3 => ⟨.bool true, fun w' hw' => by
  obtain ⟨l, hl⟩ := hl
  obtain ⟨r, hr, hrr⟩ := run_equal_deep (P := P) w' (Nat.le_of_ble_eq_true hm) hk hwide hl hl
  have hrt : r = true := hrr.2 rfl
  subst hrt
  have e1 := hux _ _ (h3.val hx)
  have e2 := huy _ _ (h3.val hy)
  simp [execOp, e1, e2, eqGuard, hg, Go.binOp, hr], .t _ _ (.v _)⟩) k
end rules
end Go.TL
namespace Go.Proofs.YtonjiabmcbdhdaaGreat
open Go Go.TL
attribute [local irreducible] TR TO Then InBlock RetK Sound LoopK Kf GG ThenL
abbrev whereV (a b : Int) : Value := .agg #[.int .i64 a, .int .i64 b]
theorem wTy : Tryz.prog.keyType 27 = true := by kernel_rfl
theorem wCells : Tryz.prog.cellsOf 27 = 2 := by kernel_rfl
theorem keyLitsW (N : Nat) {a b : Int} (ha : (Lit.int .i64 a).wf = true) (hb : (Lit.int .i64 b).wf = true) :
  (Tryz.prog.keyLits (N + 1 + 1) 27 [.int .i64 a, .int .i64 b]) = some [.int .i64 a, .int .i64 b] := by
 have e1 : ∀ c, Tryz.prog.keyLits (N + 1) 3 [c] = (match c with | .int q' n => if q' = .i64 ∧ (Lit.int .i64 n).wf = true then some [.int .i64 n] else none | _ => none) := fun c => by
  unfold Program.keyLits
  simp only [Tryz.underlying3]
  cases c <;> rfl
 unfold Program.keyLits
 simp only [Tryz.underlying27, wCells]
 simp only [List.length_cons, List.length_nil, List.mapM_cons, List.mapM_nil, cells3, List.drop_zero, List.take, List.drop, e1, ha, hb]
 simp
theorem keyW {a b : Int} (ha : -9223372036854775808 ≤ a ∧ a ≤ 9223372036854775807) (hb : -9223372036854775808 ≤ b ∧ b ≤ 9223372036854775807) : ∃ l, keyOf Tryz.prog 27 (whereV a b) = some l := by
 have hw : ∀ {k : Int}, (-9223372036854775808 ≤ k ∧ k ≤ 9223372036854775807) → (Lit.int .i64 k).wf = true := fun {k} hk => by
  simp only [Lit.wf, Bool.and_eq_true, decide_eq_true_eq]
  exact ⟨by show (-9223372036854775808 : Int) ≤ k; omega, by show k ≤ (9223372036854775807 : Int); omega⟩
 have h5 : (whereV a b).formed Tryz.prog 27 = true := by
  simp only [Value.formed, Tryz.underlying27, wCells]; rfl
 obtain ⟨N, hN⟩ := typesN
 refine ⟨.string (keyBytes [.int .i64 a, .int .i64 b]), ?_⟩
 rw [keyOf, Tryz.underlying27]
 simp only [wTy, h5, hN, Value.cells, Bool.and_self, if_true, keyLitsW N (hw ha) (hw hb), Option.map_some]
theorem srel_two {m : M} {a b : Int} {v : Value} (h : SRel m (.t (.ag [T.i a, T.i b])) v) : v = whereV a b := by
 cases h with
 | t _ _ h =>
   cases h with
   | ag _ arr hs h1 hr =>
     obtain ⟨l⟩ := arr
     match l, hs with
     | [x, y], _ =>
       have e1 := hr 0 _ x rfl rfl
       have e2 := hr 1 _ y rfl rfl
       cases e1; cases e2; rfl
theorem wEqW {G Q : Prop} (k : Q) (h : Hold Q → G := by
  intro k
  (apply Go.TL.TO.eqSame (m := 3); exact rfl; exact rfl; kernel_rfl; kernel_rfl; kernel_rfl; exact rfl; (intro m v hv; exact Go.Proofs.YtonjiabmcbdhdaaGreat.srel_two hv); exact rfl; (intro m v hv; exact Go.Proofs.YtonjiabmcbdhdaaGreat.srel_two hv); exact Go.Proofs.YtonjiabmcbdhdaaGreat.keyW (by omega) (by omega); exact k.p)) : G := h ⟨k⟩
theorem wvS {G Q : Prop} {f : FuncId} {cargs : List SV} {v : SV} (hs : Pure Tryz.prog f cargs v) (k : Q) (h : Pure Tryz.prog f cargs v → Hold Q → G := by
  intro hs k
  (apply Go.TL.TO.callV hs; exact rfl; exact rfl; exact rfl; (repeat' (first | exact trivial | exact Go.TL.Le.refl _ | refine And.intro ?_ ?_ | refine Go.TL.Le.treeS rfl ?_ | exact Go.TL.TLs.refl _ | exact Go.TL.TLs.nil _ | refine Go.TL.TLs.agL ?_ | refine Go.TL.TLs.slL ?_ | fail)); exact rfl; exact rfl; exact k.p)) : G := h hs ⟨k⟩
theorem smallSmpl : SmallP smpl := ⟨by decide, fun n h => by simp [smpl] at h; subst h; exact ⟨by decide, by decide, by decide⟩, fun n h d hd => by
 simp [smpl] at h; subst h
 simp [varsL, smplN] at hd
 rcases hd with rfl | rfl <;> decide⟩
theorem exQ_C : exC exQ = [T.i 3, T.i 11, T.i 0, T.i 0, T.s [], .sl 6 [.ag [T.i 2, T.i 0, T.i 0, T.i 0, T.s [97], .sl 6 []], .ag [T.i 1, T.i 0, T.i 2, T.i 1, T.s [], .sl 6 []]]] := by
 show [_, _, _, _, _, T.sl 6 [exT exA', exT ex1]] = _
 rw [exT_eq, exT_eq]; rfl
theorem exN_C : exC exN = [T.i 3, T.i 3, T.i 0, T.i 0, T.s [], .sl 6 [.ag [T.i 2, T.i 0, T.i 0, T.i 0, T.s [97], .sl 6 []], .ag [T.i 1, T.i 0, T.i 1, T.i 1, T.s [], .sl 6 []]]] := by
 show [_, _, _, _, _, T.sl 6 [exT exA', exT exY]] = _
 rw [exT_eq, exT_eq]; rfl
theorem exA_C : exC exA' = [T.i 2, T.i 0, T.i 0, T.i 0, T.s [97], .sl 6 []] := rfl
theorem wSmpl : (T.ag (progC smpl)).w ≤ 100000000 := by
 show (T.ag [.sl 2 [], .sl 8 [.ag [T.s [102], .sl 3 [.ag [T.s [97], T.i 2, .sl 3 []]], .sl 3 [.ag [T.s [120], T.i 1, .sl 3 []]], .sl 3 [], .sl 7 [.ag [.sl 1 [T.s [120]], T.i 1, T.i 0, T.i 2, T.i 1, T.s [], .sl 6 []]], .sl 1 [], .sl 6 [], .sl 6 []]]]).w ≤ _
 simp [w_ag, w_sl, T.w]
 decide +kernel
theorem awake_sound : Pure Tryz.prog 10 [] (.b true) := by
 have c0 := sample_sound
 have c1 := typesX_sound smpl wSmpl
 rw [tySmpl] at c1
 have c2 := of_sound11 smpl smallSmpl (i64 0) exQ (by rw [show wEx exQ = 3 from wEx_two _ _ _ _ _ _ _ _ _ _ _ _ _ _ _]; decide)
 rw [ofQ, exQ_C] at c2
 have c3 := of_sound11 smpl smallSmpl (i64 0) exN (by rw [show wEx exN = 3 from wEx_two _ _ _ _ _ _ _ _ _ _ _ _ _ _ _]; decide)
 rw [ofN, exN_C] at c3
 have c4 := of_sound11 smpl smallSmpl (i64 1) exA' (by rw [show wEx exA' = 1 from wEx_leaf _ _ _ _ _]; decide)
 rw [ofA, exA_C] at c4
 have c5 := same_sound [1] [1] (by decide)
 rw [show decide (([1] : List Int) = [1]) = true from rfl] at c5
 dsimp only at c1 c2 c3 c4
 refine Sound.of tabOk Tryz.func10 (by kernel_rfl) rfl rfl ?_
 repeat' (first | refine wEqW ?_ | refine wkt ?_ | refine wka ?_ | refine wv c0 ?_ | refine wv c1 ?_ | refine wvS c2 ?_ | refine wvS c3 ?_ | refine wvS c4 ?_ | refine wvS c5 ?_ | refine wEqW ?_ | refine wk ?_ | exact wkc | intro hc | refine wk2 ?_ ?_ | fail)
 exact wkr
theorem opKind_range (o : Int) : opKind o = 0 ∧ opN o = 0 ∨ (opKind o = 1 ∨ opKind o = 2 ∨ opKind o = 3 ∨ opKind o = 4) ∧ 1 ≤ opN o ∧ opN o ≤ 2 := by
 have h1 := opKind_cases o
 have h2 := opN_cases o
 omega
theorem resultR_sound (o : Int) (ts : List Int) : Pure Tryz.prog 65 [.i o, .t (intsT ts)] (.tup [.i (resultOp o ts).1, .i (resultOp o ts).2]) := by
 have hl : (ts.map T.i).length = ts.length := List.length_map _
 have hop := operands_sound o
 rcases opKind_range o with ⟨hk, hn⟩ | ⟨hk, hn⟩
 ·rw [show resultOp o ts = (0, 2) from if_pos hk]
  rw [hn] at hop
  refine Sound.of tabOk Tryz.func65 (by kernel_rfl) rfl rfl ?_
  repeat' (first | refine wkt ?_ | refine wk ?_ | exact wkc | intro hc | refine wk2 ?_ ?_ | refine wv hop ?_ | fail)
  exact wkr
 by_cases h9 : (ts.length : Int) ≠ opN o
 ·rw [show resultOp o ts = (0, 9) from by simp only [resultOp]; rw [if_neg (by omega), if_pos h9]]
  generalize opN o = n at *
  refine Sound.of tabOk Tryz.func65 (by kernel_rfl) rfl rfl ?_
  repeat' (first | refine wkt ?_ | refine wk ?_ | exact wkc | intro hc | refine wk2 ?_ ?_ | refine wv hop ?_ | fail)
  all_goals first
   | exact wkr
   | (exfalso; omega)
 have hr : resultOp o ts = if ts.all (okTy (opKind o) (ts.headD 0)) then (if opKind o = 2 then 2 else 1, 0) else (0, 10) := by
  simp only [resultOp, if_neg (show ¬ opKind o = 0 from by omega)]; exact if_neg h9
 have hlen : (ts.length : Int) = opN o := by omega
 rw [hr]
 clear hr
 have hx0 : (ts.map T.i)[(0 : Int).toNat]? = some (T.i (ts.headD 0)) := by
  cases ts with
  | nil => simp at hlen; omega
  | cons a l => rfl
 have hm0 : ts.headD 0 ∈ ts := by
  cases ts with
  | nil => simp at hlen; omega
  | cons a l => simp
 have hb1 := boolean_sound o
 have hb2 := equality_sound o
 have hb3 := arithmetic_sound o
 generalize ts.headD 0 = t0 at hx0 hm0 ⊢
 generalize opN o = n at *
 clear h9
 rcases hk with hk | hk | hk | hk
 all_goals
  rw [hk] at hb1 hb2 hb3 ⊢
  simp only [Int.reduceEq, decide_true, decide_false, if_true, if_false] at hb1 hb2 hb3 ⊢
  refine Sound.of tabOk Tryz.func65 (by kernel_rfl) rfl rfl ?_
  repeat' (first | refine wkt ?_ | refine wk ?_ | exact wkc | intro hc | refine wk2 ?_ ?_ | refine wv hop ?_ | refine wv hb1 ?_ | refine wv hb2 ?_ | refine wv hb3 ?_ | fail)
 all_goals first
  | (exfalso; omega)
  | skip
 ·refine TR.loopN ts.length (fun j => (ts.take j).all (okTy 1 t0) = true) (fun j => [(0, .i o), (1, .t (intsT ts)), (6, .i 1), (7, .i j)]) (fun _ => []) rfl (fun j hlt ha => ?_) (fun ha => ?_)
  ·have hx := at_ints hlt
   have htk := List.take_succ_eq_append_getElem hlt
   have hm := List.getElem_mem hlt
   generalize ts[j] = t at hx htk hm
   repeat' (first | refine wkt ?_ | refine wk ?_ | exact wkc | intro hc | refine wk2 ?_ ?_ | fail | fail)
   ·have : ts.all (okTy 1 t0) = false := List.all_eq_false.2 ⟨t, hm, by simpa [okTy] using hc⟩
    simp only [this]; exact wkr
   ·skip
    refine LoopK.nextN hlt ?_; rw [htk, List.all_append, ha]; simpa [okTy] using hc
  ·rw [List.take_length] at ha
   rw [ha]
   repeat' (first | refine wkt ?_ | refine wk ?_ | exact wkc | intro hc | refine wk2 ?_ ?_ | refine wv hb3 ?_ | fail)
   exact wkr
 ·refine TR.loopN ts.length (fun j => (ts.take j).all (okTy 2 t0) = true) (fun j => [(0, .i o), (1, .t (intsT ts)), (6, .i 2), (7, .i j)]) (fun _ => []) rfl (fun j hlt ha => ?_) (fun ha => ?_)
  ·have hx := at_ints hlt
   have htk := List.take_succ_eq_append_getElem hlt
   have hm := List.getElem_mem hlt
   generalize ts[j] = t at hx htk hm
   repeat' (first | refine wkt ?_ | refine wk ?_ | exact wkc | intro hc | refine wk2 ?_ ?_ | fail | fail)
   ·have : ts.all (okTy 2 t0) = false := List.all_eq_false.2 ⟨t, hm, by simpa [okTy] using hc⟩
    simp only [this]; exact wkr
   ·refine LoopK.nextN hlt ?_; rw [htk, List.all_append, ha]; simpa [okTy] using hc
  ·rw [List.take_length] at ha
   rw [ha]
   repeat' (first | refine wkt ?_ | refine wk ?_ | exact wkc | intro hc | refine wk2 ?_ ?_ | refine wv hb3 ?_ | fail)
   exact wkr
 ·have : ts.all (okTy 3 t0) = false := List.all_eq_false.2 ⟨t0, hm0, by simp [okTy]; omega⟩
  simp only [this]; exact wkr
 ·refine TR.loopN ts.length (fun j => (ts.take j).all (okTy 3 t0) = true) (fun j => [(0, .i o), (1, .t (intsT ts)), (6, .i t0), (7, .i j)]) (fun _ => []) rfl (fun j hlt ha => ?_) (fun ha => ?_)
  ·have hx := at_ints hlt
   have htk := List.take_succ_eq_append_getElem hlt
   have hm := List.getElem_mem hlt
   generalize ts[j] = t at hx htk hm
   repeat' (first | refine wkt ?_ | refine wk ?_ | exact wkc | intro hc | refine wk2 ?_ ?_ | fail | fail)
   ·have : ts.all (okTy 3 t0) = false := List.all_eq_false.2 ⟨t, hm, by simp [okTy]; omega⟩
    simp only [this]; exact wkr
   ·refine LoopK.nextN hlt ?_; rw [htk, List.all_append, ha]; simp [okTy]; omega
  ·rw [List.take_length] at ha
   rw [ha]
   repeat' (first | refine wkt ?_ | refine wk ?_ | exact wkc | intro hc | refine wk2 ?_ ?_ | refine wv hb3 ?_ | fail)
   exact wkr
 ·refine TR.loopN ts.length (fun j => (ts.take j).all (okTy 4 t0) = true) (fun j => [(0, .i o), (1, .t (intsT ts)), (6, .i 2), (7, .i j)]) (fun _ => []) rfl (fun j hlt ha => ?_) (fun ha => ?_)
  ·have hx := at_ints hlt
   have htk := List.take_succ_eq_append_getElem hlt
   have hm := List.getElem_mem hlt
   generalize ts[j] = t at hx htk hm
   repeat' (first | refine wkt ?_ | refine wk ?_ | exact wkc | intro hc | refine wk2 ?_ ?_ | fail | fail)
   ·have : ts.all (okTy 4 t0) = false := List.all_eq_false.2 ⟨t, hm, by simpa [okTy] using hc⟩
    simp only [this]; exact wkr
   ·refine LoopK.nextN hlt ?_; rw [htk, List.all_append, ha]; simpa [okTy] using hc
  ·rw [List.take_length] at ha
   rw [ha]
   repeat' (first | refine wkt ?_ | refine wk ?_ | exact wkc | intro hc | refine wk2 ?_ ?_ | refine wv hb3 ?_ | fail)
   exact wkr
end Go.Proofs.YtonjiabmcbdhdaaGreat
