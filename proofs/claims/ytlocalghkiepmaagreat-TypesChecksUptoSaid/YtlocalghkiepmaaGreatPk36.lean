import Derived.DeepKeys
import Derived.Test.YtlocalghkiepmaaGreatPk7
import Derived.Test.YtlocalghkiepmaaGreatPk15
import Derived.Test.YtlocalghkiepmaaGreatPk24
import Derived.Test.YtlocalghkiepmaaGreatPk25
import Derived.Test.YtlocalghkiepmaaGreatPk30
import Derived.Test.YtlocalghkiepmaaGreatPk35
set_option linter.unusedSimpArgs false
set_option linter.unusedVariables false
namespace Go.TL
open Go
section rules
variable {P : Program} {n : Nat} {env : Env} {H : Heap} {K : TK} {all : Array Oper} {rest : List Oper} {tab : Tab} {q : Bool}
variable {d : Nat} {ty : TypeId} {pos : String} {aft : Array Edge}
theorem TO.eqSame {t t' : TypeId} {x y : Operand} {sx sy : SV} {arr : Array Value} {m : Nat} (hd : Nat.ble (d + 1) n = true) (hm : Nat.ble m 10000 = true) (hk : P.keyTypeAt m t = true)
  (hwide : (match P.underlying t with | some (.array _ _) | some (.struct _) => true | _ => false) = true) (hg : P.eqGuardType P.depth t = false)
  (hx : env.val x = some sx) (hux : ∀ m v, SRel m sx v → v = .agg arr) (hy : env.val y = some sy) (huy : ∀ m v, SRel m sy v → v = .agg arr) (hl : ∃ l, keyOf P t (.agg arr) = some l)
  (k : TO q P n all rest ((d, .b true) :: env) H K) : TO q P n all (⟨some d, .binOp .eql t x y t', ty, pos, aft, none⟩ :: rest) env H K :=
 TO.op hd (fun m ac h1 h2 h3 => ⟨.bool true, fun w' hw' => by
  obtain ⟨l, hl⟩ := hl
  obtain ⟨r, hr, hrr⟩ := run_equal_deep (P := P) w' (Nat.le_of_ble_eq_true hm) hk hwide hl hl
  have hrt : r = true := hrr.2 rfl
  subst hrt
  have e1 := hux _ _ (h3.val hx)
  have e2 := huy _ _ (h3.val hy)
  simp [execOp, e1, e2, eqGuard, hg, Go.binOp, hr], .t _ _ (.v _)⟩) k
end rules
end Go.TL
namespace Go.Proofs.YtlocalghkiepmaaGreat
open Go Go.TL
attribute [local irreducible] TR TO Then InBlock RetK Sound LoopK Kf GG ThenL
abbrev whereV (a b : Int) : Value := .agg #[.int .i64 a, .int .i64 b]
theorem wTy : Tryz.prog.keyType 27 = true := by kernel_rfl
theorem wCells : Tryz.prog.cellsOf 27 = 2 := by kernel_rfl
theorem keyLitsW (N : Nat) {a b : Int} (ha : (Lit.int .i64 a).wf = true) (hb : (Lit.int .i64 b).wf = true) :
  (Tryz.prog.keyLits (N + 1 + 1) 27 [.int .i64 a, .int .i64 b]) = some [.int .i64 a, .int .i64 b] := by
 have e1 : ∀ c, Tryz.prog.keyLits (N + 1) 3 [c] = (match c with | .int q' n => if q' = .i64 ∧ (Lit.int .i64 n).wf = true then some [.int .i64 n] else none | _ => none) := fun c => by
  unfold Program.keyLits
  simp only [Tryz.underlying3]
  cases c <;> rfl
 unfold Program.keyLits
 simp only [Tryz.underlying27, wCells]
 simp only [List.length_cons, List.length_nil, List.mapM_cons, List.mapM_nil, cells3, List.drop_zero, List.take, List.drop, e1, ha, hb]
 simp
theorem keyW {a b : Int} (ha : -9223372036854775808 ≤ a ∧ a ≤ 9223372036854775807) (hb : -9223372036854775808 ≤ b ∧ b ≤ 9223372036854775807) : ∃ l, keyOf Tryz.prog 27 (whereV a b) = some l := by
 have hw : ∀ {k : Int}, (-9223372036854775808 ≤ k ∧ k ≤ 9223372036854775807) → (Lit.int .i64 k).wf = true := fun {k} hk => by
  simp only [Lit.wf, Bool.and_eq_true, decide_eq_true_eq]
  exact ⟨by show (-9223372036854775808 : Int) ≤ k; omega, by show k ≤ (9223372036854775807 : Int); omega⟩
 have h5 : (whereV a b).formed Tryz.prog 27 = true := by
  simp only [Value.formed, Tryz.underlying27, wCells]; rfl
 obtain ⟨N, hN⟩ := typesN
 refine ⟨.string (keyBytes [.int .i64 a, .int .i64 b]), ?_⟩
 rw [keyOf, Tryz.underlying27]
 simp only [wTy, h5, hN, Value.cells, Bool.and_self, if_true, keyLitsW N (hw ha) (hw hb), Option.map_some]
theorem srel_two {m : M} {a b : Int} {v : Value} (h : SRel m (.t (.ag [T.i a, T.i b])) v) : v = whereV a b := by
 cases h with
 | t _ _ h =>
   cases h with
   | ag _ arr hs h1 hr =>
     obtain ⟨l⟩ := arr
     match l, hs with
     | [x, y], _ =>
       have e1 := hr 0 _ x rfl rfl
       have e2 := hr 1 _ y rfl rfl
       cases e1; cases e2; rfl
theorem wEqW {G Q : Prop} (k : Q) (h : Hold Q → G := by
  intro k
  (apply Go.TL.TO.eqSame (m := 3); exact rfl; exact rfl; kernel_rfl; kernel_rfl; kernel_rfl; exact rfl; (intro m v hv; exact Go.Proofs.YtlocalghkiepmaaGreat.srel_two hv); exact rfl; (intro m v hv; exact Go.Proofs.YtlocalghkiepmaaGreat.srel_two hv); exact Go.Proofs.YtlocalghkiepmaaGreat.keyW (by omega) (by omega); exact k.p)) : G := h ⟨k⟩
theorem wvS {G Q : Prop} {f : FuncId} {cargs : List SV} {v : SV} (hs : Pure Tryz.prog f cargs v) (k : Q) (h : Pure Tryz.prog f cargs v → Hold Q → G := by
  intro hs k
  (apply Go.TL.TO.callV hs; (iterate 3 exact rfl); (repeat' (first | exact trivial | exact Go.TL.Le.refl _ | refine And.intro ?_ ?_ | refine Go.TL.Le.treeS rfl ?_ | exact Go.TL.TLs.refl _ | exact Go.TL.TLs.nil _ | refine Go.TL.TLs.agL ?_ | refine Go.TL.TLs.slL ?_ | fail)); exact rfl; exact rfl; exact k.p)) : G := h hs ⟨k⟩
theorem smallSmpl : SmallP smpl := ⟨by decide, fun n h => by simp [smpl] at h; subst h; exact ⟨by decide, by decide, by decide⟩, fun n h d hd => by
 simp [smpl] at h; subst h
 simp [varsL, smplN] at hd
 rcases hd with rfl | rfl <;> decide⟩
theorem exQ_C : exC exQ = [T.i 3, T.i 11, T.i 0, T.i 0, T.s [], .sl 6 [.ag [T.i 2, T.i 0, T.i 0, T.i 0, T.s [97], .sl 6 []], .ag [T.i 1, T.i 0, T.i 2, T.i 1, T.s [], .sl 6 []]]] := by
 show [_, _, _, _, _, T.sl 6 [exT exA', exT ex1]] = _
 rw [exT_eq, exT_eq]; rfl
theorem exN_C : exC exN = [T.i 3, T.i 3, T.i 0, T.i 0, T.s [], .sl 6 [.ag [T.i 2, T.i 0, T.i 0, T.i 0, T.s [97], .sl 6 []], .ag [T.i 1, T.i 0, T.i 1, T.i 1, T.s [], .sl 6 []]]] := by
 show [_, _, _, _, _, T.sl 6 [exT exA', exT exY]] = _
 rw [exT_eq, exT_eq]; rfl
theorem exA_C : exC exA' = [T.i 2, T.i 0, T.i 0, T.i 0, T.s [97], .sl 6 []] := rfl
theorem wSmpl : (T.ag (progC smpl)).w ≤ 100000000 := by
 show (T.ag [.sl 2 [], .sl 8 [.ag [T.s [102], .sl 3 [.ag [T.s [97], T.i 2, .sl 3 []]], .sl 3 [.ag [T.s [120], T.i 1, .sl 3 []]], .sl 3 [], .sl 7 [.ag [.sl 1 [T.s [120]], T.i 1, T.i 0, T.i 2, T.i 1, T.s [], .sl 6 []]], .sl 1 [], .sl 6 [], .sl 6 []]]]).w ≤ _
 simp [w_ag, w_sl, T.w]
 decide +kernel
theorem awake_sound : Pure Tryz.prog 13 [] (.b true) := by
 have c0 := sample_sound
 have c1 := typesX_sound smpl wSmpl
 rw [tySmpl] at c1
 have c2 := of_sound11 smpl smallSmpl (i64 0) exQ (by rw [show wEx exQ = 3 from wEx_two _ _ _ _ _ _ _ _ _ _ _ _ _ _ _]; decide)
 rw [ofQ, exQ_C] at c2
 have c3 := of_sound11 smpl smallSmpl (i64 0) exN (by rw [show wEx exN = 3 from wEx_two _ _ _ _ _ _ _ _ _ _ _ _ _ _ _]; decide)
 rw [ofN, exN_C] at c3
 have c4 := of_sound11 smpl smallSmpl (i64 1) exA' (by rw [show wEx exA' = 1 from wEx_leaf _ _ _ _ _]; decide)
 rw [ofA, exA_C] at c4
 have c5 := same_sound [1] [1] (by decide)
 rw [show decide (([1] : List Int) = [1]) = true from rfl] at c5
 dsimp only at c1 c2 c3 c4
 refine Sound.of tabOk Tryz.func13 (by kernel_rfl) rfl rfl ?_
 repeat' (first | refine wEqW ?_ | refine wkt ?_ | refine wka ?_ | refine wv c0 ?_ | refine wv c1 ?_ | refine wvS c2 ?_ | refine wvS c3 ?_ | refine wvS c4 ?_ | refine wvS c5 ?_ | refine wEqW ?_ | refine wk ?_ | exact wkc | intro hc | refine wk2 ?_ ?_ | fail)
 exact wkr
theorem flat_sub {e x : Ex} (h : x ∈ e.args) : ∀ y ∈ flat x, y ∈ flat e := fun y hy => by
 rw [flat_eq e]
 refine List.mem_cons_of_mem _ ?_
 unfold flats
 exact List.mem_flatten.2 ⟨flat x, List.mem_map_of_mem h, hy⟩
theorem smallP_of {p : Prog} (hw : (T.ag (progC p)).w ≤ 100000000) : SmallP p ∧ (∀ u ∈ p.nodes, (nodT u).w ≤ 100000000) ∧ p.nodes.length ≤ 100000000 := by
 have l1 : (T.sl 2 (p.enums.map enT)).w + (nodesT p.nodes).w ≤ (T.ag (progC p)).w := by rw [w_ag]; simp only [progC, List.map_cons, List.map_nil, List.sum_cons, List.sum_nil]; omega
 have hnT : (nodesT p.nodes).w = (T.sl 8 (p.nodes.map nodT)).w := rfl
 have b2 := w_lenM nodT 8 p.nodes
 have hln : ∀ u ∈ p.nodes, (nodT u).w ≤ 100000000 := fun u hu => by
  have h2 := w_inM (f := nodT) (sz := 8) hu
  omega
 exact ⟨⟨by omega, fun u hu => smallN_of (hln u hu), fun u hu => clocks_of (hln u hu)⟩, hln, by omega⟩
abbrev strsT (l : List Str) : T := .sl 1 (l.map T.s)
theorem at_strs {l : List Str} {k : Nat} (h : k < l.length) : (l.map T.s)[k]? = some (T.s l[k]) := by simp [h]
theorem has6_sound (l : List Str) (s : Str) (hl : l.length ≤ 2000000000) : Pure Tryz.prog 75 [.t (strsT l), .s s] (.b (decide (s ∈ l))) := by
 have hml : (l.map T.s).length = l.length := List.length_map _
 refine Sound.of tabOk Tryz.func75 (by kernel_rfl) rfl rfl ?_
 repeat' (first | refine wk ?_ | exact wkc | intro hc | refine wk2 ?_ ?_ | fail | fail)
 refine TR.loopN l.length (fun k => s ∉ l.take k) (fun k => [(0, .t (strsT l)), (1, .s s), (5, .i k)]) (fun _ => []) (by simp) (fun k hlt hk => ?_) (fun hk => ?_)
 ·have hx := at_strs hlt
  have htk := take_at hlt
  have hm : l[k] ∈ l := List.getElem_mem hlt
  generalize l[k] = x at *
  repeat' (first | refine wk ?_ | exact wkc | intro hc | refine wk2 ?_ ?_ | fail | fail)
  ·rw [decide_eq_true (show s ∈ l from by rw [← hc]; exact hm)]; exact wkr
  ·refine LoopK.nextN hlt ?_
   rw [htk, List.mem_append]
   rintro (h | h)
   ·exact hk h
   ·have h' : s = x := by simpa using h
    exact hc h'.symm
 ·rw [List.take_length] at hk
  rw [decide_eq_false hk]
  repeat' (first | refine wk ?_ | exact wkc | intro hc | refine wk2 ?_ ?_ | fail | fail)
  exact wkr
theorem names10_sound (l : List Decl) (hl : l.length ≤ 1000000000) : Pure Tryz.prog 136 [.t (declsT l)] (.t (strsT (l.map Decl.name))) := by
 have hml : (l.map declT).length = l.length := List.length_map _
 refine Sound.of tabOk Tryz.func136 (by kernel_rfl) rfl rfl ?_
 repeat' (first | refine wk ?_ | exact wkc | intro hc | refine wk2 ?_ ?_ | fail | fail)
 refine TR.tail 1 3 rfl ?_
 refine TR.loopN l.length (fun _ => True) (fun k => [(0, .t (declsT l)), (3, .sl 1 (((l.take k).map Decl.name).map T.s) 0), (4, .i k)]) (fun k => [.tail (((l.take k).map Decl.name).map T.s).length]) trivial (fun k hlt _ => ?_) (fun _ => ?_)
 ·have hx := at_map declT hlt
  have htk := take_at hlt
  have hlen : (((l.take k).map Decl.name).map T.s).length = k := by simp; omega
  generalize l[k] = d at *
  have hd : declT d = .ag [.s d.name, T.n d.ty, .sl 3 (d.clock.map onT)] := rfl
  rw [hd] at hx
  repeat' (first | refine wk ?_ | exact wkc | intro hc | refine wk2 ?_ ?_ | fail | fail)
  exact LoopK.nextN hlt trivial (by rw [htk, List.map_append, List.map_append]; exact ⟨rfl, rfl, rfl, trivial⟩) (by rw [htk, List.map_append, List.map_append, List.length_append]; rfl)
 ·rw [List.take_length]
  repeat' (first | refine wk ?_ | exact wkc | intro hc | refine wk2 ?_ ?_ | fail | fail)
  exact wkr
theorem without_sound (l o : List Str) (hl : l.length ≤ 2000000000) (ho : o.length ≤ 2000000000) : Pure Tryz.prog 140 [.t (strsT l), .t (strsT o)] (.t (strsT (l.filter fun s => !decide (s ∈ o)))) := by
 have hml : (l.map T.s).length = l.length := List.length_map _
 have hh := fun s => has6_sound o s ho
 refine Sound.of tabOk Tryz.func140 (by kernel_rfl) rfl rfl ?_
 repeat' (first | refine wk ?_ | exact wkc | intro hc | refine wk2 ?_ ?_ | fail | fail)
 refine TR.tail 1 5 rfl ?_
 refine TR.loopN l.length (fun _ => True) (fun k => [(0, .t (strsT l)), (1, .t (strsT o)), (5, .sl 1 (((l.take k).filter fun s => !decide (s ∈ o)).map T.s) 0), (6, .i k)]) (fun k => [.tail (((l.take k).filter fun s => !decide (s ∈ o)).map T.s).length]) trivial (fun k hlt _ => ?_) (fun _ => ?_)
 ·have hx := at_strs hlt
  have htk := take_at hlt
  have hlen : (((l.take k).filter fun s => !decide (s ∈ o)).map T.s).length ≤ k := by
   rw [List.length_map]; exact Nat.le_trans (List.length_filter_le _ _) (by simp; omega)
  have hs := hh l[k]
  generalize l[k] = x at *
  by_cases hxo : x ∈ o
  ·rw [decide_eq_true hxo] at hs
   repeat' (first | refine wkt ?_ | refine wk ?_ | exact wkc | intro hc | refine wk2 ?_ ?_ | refine wv hs ?_ | fail)
   exact LoopK.nextN hlt trivial (by rw [htk, List.filter_append]; simp only [List.filter_cons, hxo, decide_true, Bool.not_true, Bool.false_eq_true, if_false, List.filter_nil, List.append_nil]; exact ⟨rfl, rfl, rfl, rfl, trivial⟩) (by rw [htk, List.filter_append]; simp only [List.filter_cons, hxo, decide_true, Bool.not_true, Bool.false_eq_true, if_false, List.filter_nil, List.append_nil])
  ·rw [decide_eq_false hxo] at hs
   repeat' (first | refine wkt ?_ | refine wk ?_ | exact wkc | intro hc | refine wk2 ?_ ?_ | refine wv hs ?_ | fail)
   exact LoopK.nextN hlt trivial (by rw [htk, List.filter_append]; simp only [List.filter_cons, hxo, decide_false, Bool.not_false, if_true, List.filter_nil, List.map_append]; exact ⟨rfl, rfl, rfl, rfl, trivial⟩) (by rw [htk, List.filter_append]; simp only [List.filter_cons, hxo, decide_false, Bool.not_false, if_true, List.filter_nil, List.map_append, List.length_append]; rfl)
 ·rw [List.take_length]
  repeat' (first | refine wk ?_ | exact wkc | intro hc | refine wk2 ?_ ?_ | fail | fail)
  exact wkr
def Ex.withArgs : Ex → List Ex → Ex | .mk k o t v n _, l => .mk k o t v n l
def putL (F : Int → Ex → Ex × Int) : Int → List Ex → List Ex × Int
 | k, [] => ([], k)
 | k, a :: l => ((if 0 ≤ k then F k a else (a, k)).1 :: (putL F (if 0 ≤ k then F k a else (a, k)).2 l).1, (putL F (if 0 ≤ k then F k a else (a, k)).2 l).2)
def putE (x : Ex) : Nat → Int → Ex → Ex × Int
 | 0, k, e => (e, k)
 | m + 1, k, e => if k = 0 then (x, -1) else (e.withArgs (putL (putE x m) (k - 1) e.args).1, (putL (putE x m) (k - 1) e.args).2)
theorem flats_cons (a : Ex) (l : List Ex) : flats (a :: l) = flat a ++ flats l := by simp [flats]
theorem flat_mem {e z : Ex} : z ∈ flat e ↔ z = e ∨ ∃ a ∈ e.args, z ∈ flat a := by
 rw [flat_eq, List.mem_cons]
 unfold flats
 constructor
 ·rintro (h | h)
  ·exact .inl h
  ·obtain ⟨l, hl, hz⟩ := List.mem_flatten.1 h
   obtain ⟨a, ha, rfl⟩ := List.mem_map.1 hl
   exact .inr ⟨a, ha, hz⟩
 ·rintro (h | ⟨a, ha, hz⟩)
  ·exact .inl h
  ·exact .inr (List.mem_flatten.2 ⟨_, List.mem_map_of_mem ha, hz⟩)
structure Plr where
 p : Prog
 node : Int
 vis : List Str
 inputs : List Str
 tags : List Str
def plrC (s : Plr) : List T := [.sl 2 (s.p.enums.map enT), nodesT s.p.nodes, T.i s.node, strsT s.vis, strsT s.inputs, strsT s.tags]
def calleeR (p : Prog) (node : Int) (nm : Str) : Option Nod := (p.nodes.take node.toNat).find? fun n => decide (n.name = nm)
def zNod : List T := [.s [], .v (.slice none 0 0), .v (.slice none 0 0), .v (.slice none 0 0), .v (.slice none 0 0), .v (.slice none 0 0), .v (.slice none 0 0), .v (.slice none 0 0)]
theorem callee_sound (p : Prog) (node : Int) (nm : Str) (hp : p.nodes.length ≤ 1000000000) (hn : 0 ≤ node) : Pure Tryz.prog 182 [.t (.ag (progC p)), .i node, .s nm] (match calleeR p node nm with
  | some n => .tup [.t (.ag (nodC n)), .b true]
  | none => .tup [.t (.ag zNod), .b false]) := by
 have hml : (p.nodes.map nodT).length = p.nodes.length := List.length_map _
 unfold calleeR
 obtain ⟨N, hN⟩ : ∃ N : Nat, N = min node.toNat p.nodes.length := ⟨_, rfl⟩
 rw [show p.nodes.take node.toNat = p.nodes.take N from by rw [hN]; simp [List.take_eq_take_iff]]
 unfold progC
 refine Sound.of tabOk Tryz.func182 (by kernel_rfl) rfl rfl ?_
 repeat' (first | refine wk ?_ | exact wkc | intro hc | refine wk2 ?_ ?_ | fail | fail)
 refine TR.loopN N (fun k => (p.nodes.take k).find? (fun n => decide (n.name = nm)) = none) (fun k => [(1, .i node), (2, .s nm), (3, .ref 0 0), (6, .ref 1 0), (8, .i k)]) (fun _ => [.cells [.t (.sl 2 (p.enums.map enT)), .t (nodesT p.nodes)], .cells (zNod.map .t)]) rfl (fun k hlt hk => ?_) (fun hk => ?_)
 ·have hlt2 : k < p.nodes.length := by omega
  have hx := at_nod hlt2
  have htk := take_at hlt2
  have hfd : ∀ b : Bool, decide (p.nodes[k].name = nm) = b → (p.nodes.take (k + 1)).find? (fun n => decide (n.name = nm)) = if b = true then some p.nodes[k] else none := fun b hb => by
   rw [htk, List.find?_append, hk, Option.none_or]
   simp [List.find?_cons, hb]
   cases b <;> simp
  have hfN : (p.nodes.take (k + 1)).find? (fun n => decide (n.name = nm)) = some p.nodes[k] → (p.nodes.take N).find? (fun n => decide (n.name = nm)) = some p.nodes[k] := fun h => by
   rw [show p.nodes.take (k + 1) = (p.nodes.take N).take (k + 1) from by rw [List.take_take]; congr 1; omega] at h
   conv => lhs; rw [← List.take_append_drop (k + 1) (p.nodes.take N)]
   rw [List.find?_append, h]; rfl
  generalize p.nodes[k] = n at *
  unfold nodC at hx
  repeat' (first | refine wk ?_ | exact wkc | intro hc | refine wk2 ?_ ?_ | fail | fail)
  all_goals try (exfalso; omega)
  ·rw [hfN (by rw [hfd true (decide_eq_true hc)]; rfl)]
   unfold nodC
   exact wkr
  ·refine LoopK.nextN hlt ?_
   rw [hfd false (decide_eq_false hc)]; rfl
 ·rw [hk]
  unfold zNod
  repeat' (first | refine wk ?_ | exact wkc | intro hc | refine wk2 ?_ ?_ | fail | fail)
  all_goals first
   | (exfalso; omega)
   | exact wkr
def oneRf (s : Plr) (outs : Int) (x : Ex) : Int :=
 if (x.kind.1 = 2 ∨ x.kind.1 = 8 ∨ x.kind.1 = 9) ∧ x.name ∉ s.vis then 6 else
 if x.kind.1 = 10 then (match calleeR s.p s.node x.name with
  | none => 6
  | some n => if (x.args.length : Int) ≠ n.ins.length + x.v.1 ∨ (n.outs.length : Int) ≠ outs then 9 else 0) else 0
def exprRf (s : Plr) (outs : Int) (e : Ex) : Int := orE (oneRf s outs e) (firstE (oneRf s 1) (flats e.args))
theorem firstE_flats {g : Ex → Int} : ∀ (l : List Ex), firstE g (flats l) = firstE (fun a => firstE g (flat a)) l
 | [] => rfl
 | a :: l => by
   rw [flats_cons, firstE_append, firstE, firstE_flats l]
theorem firstE_take {α : Type} {g : α → Int} {l : List α} {k : Nat} (hk : k < l.length) (h : firstE g (l.take k) = 0) : firstE g (l.take (k + 1)) = g l[k] := by
 rw [take_at hk, firstE_append, if_pos h, firstE]
 split
 ·rename_i h2; rw [h2]; rfl
 ·rfl
theorem exprRf_eq (s : Plr) (outs : Int) (e : Ex) : exprRf s outs e = orE (oneRf s outs e) (firstE (exprRf s 1) e.args) := by
 unfold exprRf
 rw [firstE_flats]
 congr 2
 funext a
 rw [flat_eq]; rfl
structure PlrOk (s : Plr) : Prop where
 nodes : s.p.nodes.length ≤ 1000000000
 each : ∀ n ∈ s.p.nodes, n.ins.length ≤ 1000000000 ∧ n.outs.length ≤ 1000000000
 node : 0 ≤ s.node
 vis : s.vis.length ≤ 2000000000
set_option maxHeartbeats 2000000 in
theorem expr10_sound (s : Plr) (hs : PlrOk s) : ∀ (m : Nat) (e : Ex), wEx e ≤ m → wEx e ≤ 1000000000 → (∀ x ∈ flat e, ExOk x) → ∀ outs : Int,
  Pure Tryz.prog 139 [.t (.ag (plrC s)), .t (.ag (exC e)), .i outs] (.i (exprRf s outs e)) := by
 intro m
 induction m with
 | zero => intro e he; have := wEx_pos e; omega
 | succ m ih0 =>
   intro e he hb hex outs
   have ih : ∀ a ∈ e.args, Pure Tryz.prog 139 [.t (.ag (plrC s)), .t (.ag (exC a)), .i 1] (.i (exprRf s 1 a)) := fun a ha => ih0 a (by have := wEx_arg ha; omega) (by have := wEx_arg ha; omega) (fun x hx => hex x (flat_sub ha x hx)) 1
   clear ih0
   have hv := (hex e (flat_mem.2 (.inl rfl))).1
   have hal : e.args.length ≤ 1000000000 := by
    have : ∀ l : List Ex, l.length ≤ (l.map wEx).sum := fun l => by
     induction l with
     | nil => simp
     | cons y l ih => have := wEx_pos y; simp; omega
    have h2 := wEx_eq e
    have := this e.args
    omega
   have hml : (e.args.map exT).length = e.args.length := List.length_map _
   have h6 := has6_sound s.vis e.name hs.vis
   have hca := callee_sound s.p s.node e.name hs.nodes hs.node
   have hcl : ∀ n, calleeR s.p s.node e.name = some n → n.ins.length ≤ 1000000000 ∧ n.outs.length ≤ 1000000000 := fun n hn => hs.each n (List.mem_of_mem_take (List.mem_of_find?_eq_some hn))
   rw [exprRf_eq]
   generalize hz : oneRf s outs e = z
   generalize exprRf s 1 = F at *
   unfold oneRf at hz
   unfold plrC exC progC at *
   generalize e.args = L at *
   cases hq : calleeR s.p s.node e.name with
   | none =>
     rw [hq] at hca hz
     dsimp only at hca hz
     clear hcl
     unfold zNod at hca
     refine Sound.of tabOk Tryz.func139 (by kernel_rfl) rfl rfl ?_
     repeat' (first | refine wkt ?_ | refine wka ?_ | refine wk ?_ | exact wkc | intro hc | refine wk2 ?_ ?_ | refine wb h6 ?_ ?_ | refine wv hca ?_ | fail)
     all_goals try (exfalso; clear hca h6 ih; grind)
     all_goals first
      | ((repeat' (first | refine LoopK.ret ?_ | refine wk ?_ | fail)); refine RetK.pure rfl (Le.of_eq ?_) rfl; clear hca h6 ih; refine congrArg (fun z => SV.t (T.v (Value.int IntKind.i64 z))) ?_; first | grind | grind [orE])
      | (have hz0 : z = 0 := by (clear hca h6 ih; grind)
         subst hz0
         rw [show orE 0 (firstE F L) = firstE F L from if_pos rfl]
         clear hca h6 hz
         refine TR.loopN L.length (fun k => firstE F (L.take k) = 0) (fun k => [(3, .cp [.sl 2 (s.p.enums.map enT), nodesT s.p.nodes, T.i s.node, strsT s.vis, strsT s.inputs, strsT s.tags] 0), (4, .cp [T.n e.kind, T.n e.op, T.n e.t, T.n e.v, .s e.name, .sl 6 (L.map exT)] 0), (9, .i k)]) (fun _ => []) rfl (fun k hlt hk => ?_) (fun hk => ?_)
         ·have hx := at_exT hlt
          have hi := ih _ (List.getElem_mem hlt)
          have htk := firstE_take (g := F) hlt hk
          have hat := firstE_at (f := F) hlt hk
          generalize L[k] = x at *
          generalize F x = r at *
          unfold exC at hx
          repeat' (first | refine wkt ?_ | refine wka ?_ | refine rg [.t (.ag [.sl 2 (s.p.enums.map enT), nodesT s.p.nodes, T.i s.node, strsT s.vis, strsT s.inputs, strsT s.tags]), .cp [T.n e.kind, T.n e.op, T.n e.t, T.n e.v, .s e.name, .sl 6 (L.map exT)] 5, .t (.sl 6 (L.map exT)), .i k, .cp [T.n x.kind, T.n x.op, T.n x.t, T.n x.v, .s x.name, .sl 6 (x.args.map exT)] 0, .t (.ag [T.n x.kind, T.n x.op, T.n x.t, T.n x.v, .s x.name, .sl 6 (x.args.map exT)]), .i r, .i r] ?_ ?_ | refine wv hi ?_ | exact trivial | exact And.intro rfl rfl | refine And.intro (fun H env => ?_) ?_ | refine And.intro (fun env => ?_) ?_ | refine wk ?_ | exact wkc | intro hc | refine wk2 ?_ ?_ | fail)
          ·rw [hat hc]; exact wkr
          ·exact LoopK.nextN hlt (by rw [htk]; exact Decidable.not_not.1 hc)
         ·rw [List.take_length] at hk
          rw [hk]
          repeat' (first | refine wk ?_ | exact wkc | intro hc | refine wk2 ?_ ?_ | fail | fail)
          exact wkr)
   | some n =>
     rw [hq] at hca hz
     dsimp only at hca hz
     obtain ⟨c1, c2⟩ := hcl n hq
     have m1 : (n.ins.map declT).length = n.ins.length := List.length_map _
     have m2 : (n.outs.map declT).length = n.outs.length := List.length_map _
     unfold nodC at hca
     refine Sound.of tabOk Tryz.func139 (by kernel_rfl) rfl rfl ?_
     repeat' (first | refine wkt ?_ | refine wka ?_ | refine wk ?_ | exact wkc | intro hc | refine wk2 ?_ ?_ | refine wb h6 ?_ ?_ | refine wv hca ?_ | fail)
     all_goals try (exfalso; clear hca h6 ih; grind)
     all_goals first
      | ((repeat' (first | refine LoopK.ret ?_ | refine wk ?_ | fail)); refine RetK.pure rfl (Le.of_eq ?_) rfl; clear hca h6 ih; refine congrArg (fun z => SV.t (T.v (Value.int IntKind.i64 z))) ?_; first | grind | grind [orE])
      | (have hz0 : z = 0 := by (clear hca h6 ih; grind)
         subst hz0
         rw [show orE 0 (firstE F L) = firstE F L from if_pos rfl]
         clear hca h6 hz
         refine TR.loopN L.length (fun k => firstE F (L.take k) = 0) (fun k => [(3, .cp [.sl 2 (s.p.enums.map enT), nodesT s.p.nodes, T.i s.node, strsT s.vis, strsT s.inputs, strsT s.tags] 0), (4, .cp [T.n e.kind, T.n e.op, T.n e.t, T.n e.v, .s e.name, .sl 6 (L.map exT)] 0), (9, .i k)]) (fun _ => []) rfl (fun k hlt hk => ?_) (fun hk => ?_)
         ·have hx := at_exT hlt
          have hi := ih _ (List.getElem_mem hlt)
          have htk := firstE_take (g := F) hlt hk
          have hat := firstE_at (f := F) hlt hk
          generalize L[k] = x at *
          generalize F x = r at *
          unfold exC at hx
          repeat' (first | refine wkt ?_ | refine wka ?_ | refine rg [.t (.ag [.sl 2 (s.p.enums.map enT), nodesT s.p.nodes, T.i s.node, strsT s.vis, strsT s.inputs, strsT s.tags]), .cp [T.n e.kind, T.n e.op, T.n e.t, T.n e.v, .s e.name, .sl 6 (L.map exT)] 5, .t (.sl 6 (L.map exT)), .i k, .cp [T.n x.kind, T.n x.op, T.n x.t, T.n x.v, .s x.name, .sl 6 (x.args.map exT)] 0, .t (.ag [T.n x.kind, T.n x.op, T.n x.t, T.n x.v, .s x.name, .sl 6 (x.args.map exT)]), .i r, .i r] ?_ ?_ | refine wv hi ?_ | exact trivial | exact And.intro rfl rfl | refine And.intro (fun H env => ?_) ?_ | refine And.intro (fun env => ?_) ?_ | refine wk ?_ | exact wkc | intro hc | refine wk2 ?_ ?_ | fail)
          ·rw [hat hc]; exact wkr
          ·exact LoopK.nextN hlt (by rw [htk]; exact Decidable.not_not.1 hc)
         ·rw [List.take_length] at hk
          rw [hk]
          repeat' (first | refine wk ?_ | exact wkc | intro hc | refine wk2 ?_ ?_ | fail | fail)
          exact wkr)
end Go.Proofs.YtlocalghkiepmaaGreat
namespace Go.TL
open Go
def WeakK (K : TK) : TK := fun e env H => ∃ env1 : Env, (∀ i v, env1.look i = some v → ∃ u, env.look i = some u ∧ Le u v) ∧ K e env1 H
section rules
variable {P : Program} {n : Nat} {env : Env} {H : Heap} {K : TK}
theorem Post.weak {φ : Fm} {m : M} {e : Exit} {a : Act} {w : World} (h : Post φ m n (WeakK K) e a w) : Post φ m n K e a w := by
 obtain ⟨m2, env2, te, rfl, s, hm, he, hd, hx, env1, hle, hk⟩ := h
 exact ⟨m2, env1, te, rfl, s, hm, ⟨he.1, fun i v hv => by
  obtain ⟨u, hu, hl⟩ := hle i v hv
  obtain ⟨x, x1, x2⟩ := he.2 i u hu
  exact ⟨x, x1, hl m2 x x2⟩⟩, hd, hx, hk⟩
theorem TR.weak {c : Code} (h : TR P n c env H (WeakK K)) : TR P n c env H K :=
 fun φ m a h1 h2 h3 h4 => wpr_mono (h φ m a h1 h2 h3 h4) fun _ _ _ hp => hp.weak
theorem WeakK.done {e : TExit} (h : K e env H) : WeakK K e env H := ⟨env, fun _ v hv => ⟨v, hv, Le.refl v⟩, h⟩
theorem WeakK.own {e : TExit} (i : Nat) {sz id : Nat} {es : List T} (hi : env.look i = some (.sl sz es id)) (h : K e ((i, .t (.sl sz es)) :: env) H) : WeakK K e env H := by
 refine ⟨_, fun j v hv => ?_, h⟩
 by_cases hj : i = j
 ·subst hj
  rw [Env.look_cons_same] at hv
  cases hv
  exact ⟨_, hi, Le.own _ _ _⟩
 ·rw [Env.look_cons_other _ _ hj] at hv
  exact ⟨v, hv, Le.refl v⟩
theorem WeakK.ret (h : K .ret env H) : WeakK K .ret env H := WeakK.done h
theorem WeakK.exit {i : Nat} (h : K (.exit i) env H) : WeakK K (.exit i) env H := WeakK.done h
variable {all : Array Oper} {rest : List Oper} {tab : Tab} {d : Nat} {ty : TypeId} {pos : String} {aft : Array Edge}
theorem TO.append0 (hT : TabOk P tab) {t t' e : TypeId} {i i' ie : TyI} {sz id : Nat} {ys : List T} {x y : Operand} {vy : SV} {H' : Heap} (hd : Nat.ble (d + 1) n = true) (ht : tab.get t = some i) (hk : i.k = .slice e) (ht' : tab.get t' = some i') (hk' : i'.k = .slice e)
  (he : tab.get e = some ie) (hs : ie.size = sz) (hpos : Nat.ble 1 sz = true) (hx : env.val x = some (.sl sz [] id)) (hH : H[id]? = some (.tail 0)) (hy : env.val y = some vy) (hvy : vy.elems sz = some ys)
  (hby : Nat.ble ie.bytes 4096 = true) (hb1 : ys.length ≤ 10000000000) (hH' : H.set id (.tail ys.length) = H')
  (k : TO false P n all rest ((d, .sl sz ys id) :: env) H' K) : TO false P n all (⟨some d, .call { callee := .builtin .append, args := #[x, y], argTypes := #[t, t'] }, ty, pos, aft, none⟩ :: rest) env H K :=
 TO.appendB (es := []) hT hd ht hk ht' hk' he hs hpos hx hH hy hvy hby (by simpa using hb1) (by rw [← hH']; simp) k
theorem TO.callTl {cargs : List SV} {sz m : Nat} {es : List T} {f : Operand} {fid : FuncId} {caps : List SV} {args : Array Operand} {ts : Array TypeId} {vs : List SV}
  (hs : Sound P fid cargs [] fun r H' => r = .ret (.sl sz es 0) ∧ H' = [.tail m]) (hd : Nat.ble (d + 1) n = true)
  (hf : env.val f = some (.fn fid caps)) (ha : env.vals args.toList = some vs) (hl : Les (vs ++ caps) cargs) (hu : unders 0 cargs = true)
  (k : TO false P n all rest ((d, .sl sz es H.length) :: env) (H ++ [.tail m]) K) :
  TO false P n all (⟨some d, .call { callee := .value f, args := args, argTypes := ts }, ty, pos, aft, none⟩ :: rest) env H K :=
 TO.call1 [] hs hd hf ha (by rw [rens_under (N := 0) (fun j hj => by omega) _ hu]; exact hl) hu (hands_none H) (by simp [SV.ren, names]) (by
  simp only [patch, List.map_cons, List.map_nil, Blk.ren]) k
end rules
end Go.TL
