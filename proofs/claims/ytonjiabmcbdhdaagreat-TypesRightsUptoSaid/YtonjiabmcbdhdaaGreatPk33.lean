import Derived.DeepKeys
import Derived.Test.YtonjiabmcbdhdaaGreatPk15
import Derived.Test.YtonjiabmcbdhdaaGreatPk17
import Derived.Test.YtonjiabmcbdhdaaGreatPk18
import Derived.Test.YtonjiabmcbdhdaaGreatPk32
set_option linter.unusedVariables false
set_option linter.unusedSimpArgs false
namespace Go.TL
open Go
section rules
variable {P : Program} {n : Nat} {env : Env} {H : Heap} {K : TK} {all : Array Oper} {rest : List Oper} {tab : Tab} {q : Bool}
variable {d : Nat} {ty : TypeId} {pos : String} {aft : Array Edge}
theorem TO.eqSame {t t' : TypeId} {x y : Operand} {sx sy : SV} {arr : Array Value} {m : Nat} (hd : Nat.ble (d + 1) n = true) (hm : Nat.ble m 10000 = true) (hk : P.keyTypeAt m t = true)
    (hwide : (match P.underlying t with | some (.array _ _) | some (.struct _) => true | _ => false) = true) (hg : P.eqGuardType P.depth t = false)
    (hx : env.val x = some sx) (hux : ∀ m v, SRel m sx v → v = .agg arr) (hy : env.val y = some sy) (huy : ∀ m v, SRel m sy v → v = .agg arr) (hl : ∃ l, keyOf P t (.agg arr) = some l)
    (k : TO q P n all rest ((d, .b true) :: env) H K) : TO q P n all (⟨some d, .binOp .eql t x y t', ty, pos, aft, none⟩ :: rest) env H K :=
  TO.op hd (fun m ac h1 h2 h3 => ⟨.bool true, fun w' hw' => by
    obtain ⟨l, hl⟩ := hl
    obtain ⟨r, hr, hrr⟩ := run_equal_deep (P := P) w' (Nat.le_of_ble_eq_true hm) hk hwide hl hl
    have hrt : r = true := hrr.2 rfl
    subst hrt
    have e1 := hux _ _ (h3.val hx)
    have e2 := huy _ _ (h3.val hy)
    simp [execOp, e1, e2, eqGuard, hg, Go.binOp, hr], .t _ _ (.v _)⟩) k
end rules
end Go.TL
set_option linter.unusedVariables false
set_option linter.unusedSimpArgs false
namespace Go.Proofs.YtonjiabmcbdhdaaGreat
open Go Go.TL
attribute [local irreducible] TR TO Then InBlock RetK Sound LoopK Kf GG ThenL
abbrev whereV (a b : Int) : Value := .agg #[.int .i64 a, .int .i64 b]
theorem wTy : Tryz.prog.keyType 27 = true := by kernel_rfl
theorem wCells : Tryz.prog.cellsOf 27 = 2 := by kernel_rfl
theorem keyLitsW (N : Nat) {a b : Int} (ha : (Lit.int .i64 a).wf = true) (hb : (Lit.int .i64 b).wf = true) :
    (Tryz.prog.keyLits (N + 1 + 1) 27 [.int .i64 a, .int .i64 b]) = some [.int .i64 a, .int .i64 b] := by
  have e1 : ∀ c, Tryz.prog.keyLits (N + 1) 3 [c] = (match c with | .int q' n => if q' = .i64 ∧ (Lit.int .i64 n).wf = true then some [.int .i64 n] else none | _ => none) := fun c => by
    unfold Program.keyLits
    simp only [Tryz.underlying3]
    cases c <;> rfl
  unfold Program.keyLits
  simp only [Tryz.underlying27, wCells]
  simp only [List.length_cons, List.length_nil, List.mapM_cons, List.mapM_nil, cells3, List.drop_zero, List.take, List.drop, e1, ha, hb]
  simp
theorem keyW {a b : Int} (ha : -9223372036854775808 ≤ a ∧ a ≤ 9223372036854775807) (hb : -9223372036854775808 ≤ b ∧ b ≤ 9223372036854775807) : ∃ l, keyOf Tryz.prog 27 (whereV a b) = some l := by
  have hw : ∀ {k : Int}, (-9223372036854775808 ≤ k ∧ k ≤ 9223372036854775807) → (Lit.int .i64 k).wf = true := fun {k} hk => by
    simp only [Lit.wf, Bool.and_eq_true, decide_eq_true_eq]
    exact ⟨by show (-9223372036854775808 : Int) ≤ k; omega, by show k ≤ (9223372036854775807 : Int); omega⟩
  have h5 : (whereV a b).formed Tryz.prog 27 = true := by
    simp only [Value.formed, Tryz.underlying27, wCells]; rfl
  obtain ⟨N, hN⟩ := typesN
  refine ⟨.string (keyBytes [.int .i64 a, .int .i64 b]), ?_⟩
  rw [keyOf, Tryz.underlying27]
  simp only [wTy, h5, hN, Value.cells, Bool.and_self, if_true, keyLitsW N (hw ha) (hw hb), Option.map_some]
theorem srel_two {m : M} {a b : Int} {v : Value} (h : SRel m (.t (.ag [T.i a, T.i b])) v) : v = whereV a b := by
  cases h with
  | t _ _ h =>
    cases h with
    | ag _ arr hs h1 hr =>
      obtain ⟨l⟩ := arr
      match l, hs with
      | [x, y], _ =>
        have e1 := hr 0 _ x rfl rfl
        have e2 := hr 1 _ y rfl rfl
        cases e1; cases e2; rfl
theorem wEqW {G Q : Prop} (k : Q) (h : Hold Q → G := by
    intro k
    (apply Go.TL.TO.eqSame (m := 3); exact rfl; exact rfl; kernel_rfl; kernel_rfl; kernel_rfl; exact rfl; (intro m v hv; exact Go.Proofs.YtonjiabmcbdhdaaGreat.srel_two hv); exact rfl; (intro m v hv; exact Go.Proofs.YtonjiabmcbdhdaaGreat.srel_two hv); exact Go.Proofs.YtonjiabmcbdhdaaGreat.keyW (by omega) (by omega); exact k.p)) : G := h ⟨k⟩
theorem wvS {G Q : Prop} {f : FuncId} {cargs : List SV} {v : SV} (hs : Pure Tryz.prog f cargs v) (k : Q) (h : Pure Tryz.prog f cargs v → Hold Q → G := by
    intro hs k
    (apply Go.TL.TO.callV hs; exact rfl; exact rfl; exact rfl; (repeat' (first | exact trivial | exact Go.TL.Le.refl _ | refine And.intro ?_ ?_ | refine Go.TL.Le.treeS rfl ?_ | exact Go.TL.TLs.refl _ | exact Go.TL.TLs.nil _ | refine Go.TL.TLs.agL ?_ | refine Go.TL.TLs.slL ?_ | fail)); exact rfl; exact rfl; exact k.p)) : G := h hs ⟨k⟩
theorem smallSmpl : SmallP smpl := ⟨by decide, fun n h => by simp [smpl] at h; subst h; exact ⟨by decide, by decide, by decide⟩, fun n h d hd => by
  simp [smpl] at h; subst h
  simp [varsL, smplN] at hd
  rcases hd with rfl | rfl <;> decide⟩
theorem exQ_C : exC exQ = [T.i 3, T.i 11, T.i 0, T.i 0, T.s [], .sl 6 [.ag [T.i 2, T.i 0, T.i 0, T.i 0, T.s [97], .sl 6 []], .ag [T.i 1, T.i 0, T.i 2, T.i 1, T.s [], .sl 6 []]]] := by
  show [_, _, _, _, _, T.sl 6 [exT exA', exT ex1]] = _
  rw [exT_eq, exT_eq]; rfl
theorem exN_C : exC exN = [T.i 3, T.i 3, T.i 0, T.i 0, T.s [], .sl 6 [.ag [T.i 2, T.i 0, T.i 0, T.i 0, T.s [97], .sl 6 []], .ag [T.i 1, T.i 0, T.i 1, T.i 1, T.s [], .sl 6 []]]] := by
  show [_, _, _, _, _, T.sl 6 [exT exA', exT exY]] = _
  rw [exT_eq, exT_eq]; rfl
theorem exA_C : exC exA' = [T.i 2, T.i 0, T.i 0, T.i 0, T.s [97], .sl 6 []] := rfl
theorem wSmpl : (T.ag (progC smpl)).w ≤ 100000000 := by
  show (T.ag [.sl 2 [], .sl 8 [.ag [T.s [102], .sl 3 [.ag [T.s [97], T.i 2, .sl 3 []]], .sl 3 [.ag [T.s [120], T.i 1, .sl 3 []]], .sl 3 [], .sl 7 [.ag [.sl 1 [T.s [120]], T.i 1, T.i 0, T.i 2, T.i 1, T.s [], .sl 6 []]], .sl 1 [], .sl 6 [], .sl 6 []]]]).w ≤ _
  simp [w_ag, w_sl, T.w]
  decide +kernel
theorem awake_sound : Pure Tryz.prog 10 [] (.b true) := by
  have c0 := sample_sound
  have c1 := typesX_sound smpl wSmpl
  rw [tySmpl] at c1
  have c2 := of_sound11 smpl smallSmpl (i64 0) exQ (by rw [show wEx exQ = 3 from wEx_two _ _ _ _ _ _ _ _ _ _ _ _ _ _ _]; decide)
  rw [ofQ, exQ_C] at c2
  have c3 := of_sound11 smpl smallSmpl (i64 0) exN (by rw [show wEx exN = 3 from wEx_two _ _ _ _ _ _ _ _ _ _ _ _ _ _ _]; decide)
  rw [ofN, exN_C] at c3
  have c4 := of_sound11 smpl smallSmpl (i64 1) exA' (by rw [show wEx exA' = 1 from wEx_leaf _ _ _ _ _]; decide)
  rw [ofA, exA_C] at c4
  have c5 := same_sound [1] [1] (by decide)
  rw [show decide (([1] : List Int) = [1]) = true from rfl] at c5
  dsimp only at c1 c2 c3 c4
  refine Sound.of tabOk Tryz.func10 (by kernel_rfl) rfl rfl ?_
  repeat' (first | refine wEqW ?_ | refine wkt ?_ | refine wka ?_ | refine wv c0 ?_ | refine wv c1 ?_ | refine wvS c2 ?_ | refine wvS c3 ?_ | refine wvS c4 ?_ | refine wvS c5 ?_ | refine wEqW ?_ | refine wk ?_ | exact wkc | intro hc | refine wk2 ?_ ?_ | fail)
  exact wkr
end Go.Proofs.YtonjiabmcbdhdaaGreat
set_option linter.unusedVariables false
set_option linter.unusedSimpArgs false
namespace Go.Proofs.YtonjiabmcbdhdaaGreat
open Go Go.TL
attribute [local irreducible] TR TO Then InBlock RetK Sound LoopK Kf GG ThenL
theorem opKind_range (o : Int) : opKind o = 0 ∧ opN o = 0 ∨ (opKind o = 1 ∨ opKind o = 2 ∨ opKind o = 3 ∨ opKind o = 4) ∧ 1 ≤ opN o ∧ opN o ≤ 2 := by
  have h1 := opKind_cases o
  have h2 := opN_cases o
  omega
theorem resultR_sound (o : Int) (ts : List Int) : Pure Tryz.prog 65 [.i o, .t (intsT ts)] (.tup [.i (resultOp o ts).1, .i (resultOp o ts).2]) := by
  have hl : (ts.map T.i).length = ts.length := List.length_map _
  have hop := operands_sound o
  rcases opKind_range o with ⟨hk, hn⟩ | ⟨hk, hn⟩
  · rw [show resultOp o ts = (0, 2) from if_pos hk]
    rw [hn] at hop
    refine Sound.of tabOk Tryz.func65 (by kernel_rfl) rfl rfl ?_
    repeat' (first | refine wkt ?_ | refine wk ?_ | exact wkc | intro hc | refine wk2 ?_ ?_ | refine wv hop ?_ | fail)
    exact wkr
  by_cases h9 : (ts.length : Int) ≠ opN o
  · rw [show resultOp o ts = (0, 9) from by simp only [resultOp]; rw [if_neg (by omega), if_pos h9]]
    generalize opN o = n at *
    refine Sound.of tabOk Tryz.func65 (by kernel_rfl) rfl rfl ?_
    repeat' (first | refine wkt ?_ | refine wk ?_ | exact wkc | intro hc | refine wk2 ?_ ?_ | refine wv hop ?_ | fail)
    all_goals first
      | exact wkr
      | (exfalso; omega)
  have hr : resultOp o ts = if ts.all (okTy (opKind o) (ts.headD 0)) then (if opKind o = 2 then 2 else 1, 0) else (0, 10) := by
    simp only [resultOp, if_neg (show ¬ opKind o = 0 from by omega)]; exact if_neg h9
  have hlen : (ts.length : Int) = opN o := by omega
  rw [hr]
  clear hr
  have hx0 : (ts.map T.i)[(0 : Int).toNat]? = some (T.i (ts.headD 0)) := by
    cases ts with
    | nil => simp at hlen; omega
    | cons a l => rfl
  have hm0 : ts.headD 0 ∈ ts := by
    cases ts with
    | nil => simp at hlen; omega
    | cons a l => simp
  have hb1 := boolean_sound o
  have hb2 := equality_sound o
  have hb3 := arithmetic_sound o
  generalize ts.headD 0 = t0 at hx0 hm0 ⊢
  generalize opN o = n at *
  clear h9
  rcases hk with hk | hk | hk | hk
  all_goals
    rw [hk] at hb1 hb2 hb3 ⊢
    simp only [Int.reduceEq, decide_true, decide_false, if_true, if_false] at hb1 hb2 hb3 ⊢
    refine Sound.of tabOk Tryz.func65 (by kernel_rfl) rfl rfl ?_
    repeat' (first | refine wkt ?_ | refine wk ?_ | exact wkc | intro hc | refine wk2 ?_ ?_ | refine wv hop ?_ | refine wv hb1 ?_ | refine wv hb2 ?_ | refine wv hb3 ?_ | fail)
  all_goals first
    | (exfalso; omega)
    | skip
  · refine TR.loopN ts.length (fun j => (ts.take j).all (okTy 1 t0) = true) (fun j => [(0, .i o), (1, .t (intsT ts)), (6, .i 1), (7, .i j)]) (fun _ => []) rfl (fun j hlt ha => ?_) (fun ha => ?_)
    · have hx := at_ints hlt
      have htk := List.take_succ_eq_append_getElem hlt
      have hm := List.getElem_mem hlt
      generalize ts[j] = t at hx htk hm
      repeat' (first | refine wkt ?_ | refine wk ?_ | exact wkc | intro hc | refine wk2 ?_ ?_ | fail | fail)
      · have : ts.all (okTy 1 t0) = false := List.all_eq_false.2 ⟨t, hm, by simpa [okTy] using hc⟩
        simp only [this]; exact wkr
      · skip
        refine LoopK.nextN hlt ?_; rw [htk, List.all_append, ha]; simpa [okTy] using hc
    · rw [List.take_length] at ha
      rw [ha]
      repeat' (first | refine wkt ?_ | refine wk ?_ | exact wkc | intro hc | refine wk2 ?_ ?_ | refine wv hb3 ?_ | fail)
      exact wkr
  · refine TR.loopN ts.length (fun j => (ts.take j).all (okTy 2 t0) = true) (fun j => [(0, .i o), (1, .t (intsT ts)), (6, .i 2), (7, .i j)]) (fun _ => []) rfl (fun j hlt ha => ?_) (fun ha => ?_)
    · have hx := at_ints hlt
      have htk := List.take_succ_eq_append_getElem hlt
      have hm := List.getElem_mem hlt
      generalize ts[j] = t at hx htk hm
      repeat' (first | refine wkt ?_ | refine wk ?_ | exact wkc | intro hc | refine wk2 ?_ ?_ | fail | fail)
      · have : ts.all (okTy 2 t0) = false := List.all_eq_false.2 ⟨t, hm, by simpa [okTy] using hc⟩
        simp only [this]; exact wkr
      · refine LoopK.nextN hlt ?_; rw [htk, List.all_append, ha]; simpa [okTy] using hc
    · rw [List.take_length] at ha
      rw [ha]
      repeat' (first | refine wkt ?_ | refine wk ?_ | exact wkc | intro hc | refine wk2 ?_ ?_ | refine wv hb3 ?_ | fail)
      exact wkr
  · have : ts.all (okTy 3 t0) = false := List.all_eq_false.2 ⟨t0, hm0, by simp [okTy]; omega⟩
    simp only [this]; exact wkr
  · refine TR.loopN ts.length (fun j => (ts.take j).all (okTy 3 t0) = true) (fun j => [(0, .i o), (1, .t (intsT ts)), (6, .i t0), (7, .i j)]) (fun _ => []) rfl (fun j hlt ha => ?_) (fun ha => ?_)
    · have hx := at_ints hlt
      have htk := List.take_succ_eq_append_getElem hlt
      have hm := List.getElem_mem hlt
      generalize ts[j] = t at hx htk hm
      repeat' (first | refine wkt ?_ | refine wk ?_ | exact wkc | intro hc | refine wk2 ?_ ?_ | fail | fail)
      · have : ts.all (okTy 3 t0) = false := List.all_eq_false.2 ⟨t, hm, by simp [okTy]; omega⟩
        simp only [this]; exact wkr
      · refine LoopK.nextN hlt ?_; rw [htk, List.all_append, ha]; simp [okTy]; omega
    · rw [List.take_length] at ha
      rw [ha]
      repeat' (first | refine wkt ?_ | refine wk ?_ | exact wkc | intro hc | refine wk2 ?_ ?_ | refine wv hb3 ?_ | fail)
      exact wkr
  · refine TR.loopN ts.length (fun j => (ts.take j).all (okTy 4 t0) = true) (fun j => [(0, .i o), (1, .t (intsT ts)), (6, .i 2), (7, .i j)]) (fun _ => []) rfl (fun j hlt ha => ?_) (fun ha => ?_)
    · have hx := at_ints hlt
      have htk := List.take_succ_eq_append_getElem hlt
      have hm := List.getElem_mem hlt
      generalize ts[j] = t at hx htk hm
      repeat' (first | refine wkt ?_ | refine wk ?_ | exact wkc | intro hc | refine wk2 ?_ ?_ | fail | fail)
      · have : ts.all (okTy 4 t0) = false := List.all_eq_false.2 ⟨t, hm, by simpa [okTy] using hc⟩
        simp only [this]; exact wkr
      · refine LoopK.nextN hlt ?_; rw [htk, List.all_append, ha]; simpa [okTy] using hc
    · rw [List.take_length] at ha
      rw [ha]
      repeat' (first | refine wkt ?_ | refine wk ?_ | exact wkc | intro hc | refine wk2 ?_ ?_ | refine wv hb3 ?_ | fail)
      exact wkr
end Go.Proofs.YtonjiabmcbdhdaaGreat
set_option linter.unusedVariables false
set_option linter.unusedSimpArgs false
namespace Go.Proofs.YtonjiabmcbdhdaaGreat
open Go Go.TL
attribute [local irreducible] TR TO Then InBlock RetK Sound LoopK Kf GG ThenL
theorem oneR_sound' (w : Plc) (l : List Ex) (hl : l.length ≤ 1000000000) (ih : ∀ x ∈ l, Pure Tryz.prog 36 [.t (.ag (progC w.p)), .i w.node.1, .t (declsT w.env), .t (exT x), .b true] (.tup [.t (intsT (resT w true x).1), .i (resT w true x).2])) :
    Pure Tryz.prog 64 [.t (.ag (progC w.p)), .i w.node.1, .t (declsT w.env), .t (.sl 6 (l.map exT))] (.tup [.t (intsT (heads (l.map (resT w true))).1), .i (heads (l.map (resT w true))).2]) := by
  have hml : (l.map exT).length = l.length := List.length_map _
  have hR : ∀ x, (resT w true x).2 = 0 → (resT w true x).1.length = 1 := fun x => resT_one
  generalize resT w true = R at ih hR ⊢
  unfold progC at *
  refine Sound.of tabOk Tryz.func64 (by kernel_rfl) rfl rfl ?_
  repeat' (first | refine wkt ?_ | refine wk ?_ | exact wkc | intro hc | refine wk2 ?_ ?_ | fail)
  refine TR.tail 1 10 rfl ?_
  refine TR.loopN l.length (fun k => (heads ((l.take k).map R)).2 = 0) (fun k => [(1, .i w.node.1), (2, .t (declsT w.env)), (3, .t (.sl 6 (l.map exT))), (4, .cp [.sl 2 (w.p.enums.map enT), nodesT w.p.nodes] 0), (10, .sl 1 (((heads ((l.take k).map R)).1).map T.i) 0), (11, .i k)])
    (fun k => [.tail (((heads ((l.take k).map R)).1).map T.i).length]) rfl (fun k hlt ha => ?_) (fun ha => ?_) ⟨rfl, rfl, rfl, rfl, rfl, rfl, trivial⟩
  · have hx := at_exT hlt
    have hs := ih l[k] (List.getElem_mem hlt)
    have hr := hR l[k]
    have htk : heads ((l.take (k + 1)).map R) = if (R l[k]).2 ≠ 0 then ([], (R l[k]).2) else ((heads ((l.take k).map R)).1 ++ [(R l[k]).1.headD 0], 0) := by
      rw [take_at hlt, List.map_append, heads_append, if_neg (by simpa using ha)]
      by_cases h : (R l[k]).2 = 0
      · simp [heads, h]
      · simp [heads, h]
    have hbad : (R l[k]).2 ≠ 0 → heads (l.map R) = ([], (R l[k]).2) := by
      intro h
      conv => lhs; rw [← List.take_append_drop (k + 1) l]
      rw [List.map_append, heads_append, htk, if_pos h]
      simp [h]
    have hlen : (heads ((l.take k).map R)).1.length = k := by rw [heads_len _ ha]; simp; omega
    have hlenm : ((heads ((l.take k).map R)).1.map T.i).length = k := by rw [List.length_map, hlen]
    rw [exT_eq] at hs
    generalize R l[k] = r at *
    obtain ⟨rl, re⟩ := r
    simp only at hs hr htk hbad
    generalize l[k] = x at *
    unfold exC at hx hs
    generalize (heads ((l.take k).map R)).1 = acc at *
    by_cases he : re = 0
    · obtain ⟨t0, rfl⟩ : ∃ t0, rl = [t0] := by
        have := hr he
        match rl, this with
        | [a], _ => exact ⟨a, rfl⟩
      subst he
      rw [if_neg (by simp)] at htk
      repeat' (first | refine wkt ?_ | fail)
      refine wk2 ?_ ?_
      · intro hc
        first | refine wkt ?_ | refine wk ?_
        refine TR.regionM (envF := ?envF) (HF := [.tail (acc.map T.i).length]) [(.t (.ag [.sl 2 (w.p.enums.map enT), nodesT w.p.nodes]), false), (.i w.node.1, false), (.t (declsT w.env), false), (.t (.sl 6 (l.map exT)), false), (.i k, false), (.cp [T.n x.kind, T.n x.op, T.n x.t, T.n x.v, .s x.name, .sl 6 (x.args.map exT)] 0, false), (.t (.ag [T.n x.kind, T.n x.op, T.n x.t, T.n x.v, .s x.name, .sl 6 (x.args.map exT)]), false), (.tup [.t (intsT [t0]), .i 0], true), (.tup [.t (intsT [t0]), .i 0], false), (.t (intsT [t0]), false), (.i 0, false), (.t (intsT [t0]), false), (.i 0, false)] [[.tail (acc.map T.i).length], [.tail (acc.map T.i).length]] hmix ?hB ?h0 ?hp ?hF ?hE ?hK
        case hB => (dsimp only [List.map]; decide +kernel)
        case h0 => exact rfl
        case hF => exact rfl
        case hE => exact rfl
        case hp => repeat' (first | refine wkt ?_ | refine wk ?_ | exact wkc | intro hc | refine wk2 ?_ ?_ | refine wv hs ?_ | exact trivial | exact And.intro rfl rfl | refine And.intro (fun H env => ?_) ?_ | refine And.intro (fun env => ?_) ?_ | fail)
        case hK =>
          repeat' (first | refine wkt ?_ | refine wk ?_ | exact wkc | intro hc | refine wk2 ?_ ?_ | refine wv hs ?_ | exact trivial | exact And.intro rfl rfl | refine And.intro (fun H env => ?_) ?_ | refine And.intro (fun env => ?_) ?_ | fail)
          exact LoopK.nextN hlt (by rw [htk]) (by rw [htk, List.map_append]; exact ⟨rfl, rfl, rfl, rfl, rfl, rfl, trivial⟩) (by rw [htk, List.map_append, List.length_append]; rfl)
      · exact wkc
    · rw [hbad he]
      repeat' (first | refine wkt ?_ | fail)
      refine wk2 ?_ ?_
      · intro hc
        first | refine wkt ?_ | refine wk ?_
        refine TR.regionM (envF := ?envG) (HF := [.tail (acc.map T.i).length]) [(.t (.ag [.sl 2 (w.p.enums.map enT), nodesT w.p.nodes]), false), (.i w.node.1, false), (.t (declsT w.env), false), (.t (.sl 6 (l.map exT)), false), (.i k, false), (.cp [T.n x.kind, T.n x.op, T.n x.t, T.n x.v, .s x.name, .sl 6 (x.args.map exT)] 0, false), (.t (.ag [T.n x.kind, T.n x.op, T.n x.t, T.n x.v, .s x.name, .sl 6 (x.args.map exT)]), false), (.tup [.t (intsT rl), .i re], true), (.tup [.t (intsT rl), .i re], false), (.t (intsT rl), false), (.i re, false), (.t (intsT rl), false), (.i re, false)] [[.tail (acc.map T.i).length], [.tail (acc.map T.i).length]] hmix ?hB ?h0 ?hp ?hF ?hE ?hK
        case hB => (dsimp only [List.map]; decide +kernel)
        case h0 => exact rfl
        case hF => exact rfl
        case hE => exact rfl
        case hp => repeat' (first | refine wkt ?_ | refine wk ?_ | exact wkc | intro hc | refine wk2 ?_ ?_ | refine wv hs ?_ | exact trivial | exact And.intro rfl rfl | refine And.intro (fun H env => ?_) ?_ | refine And.intro (fun env => ?_) ?_ | fail)
        case hK =>
          repeat' (first | refine wkt ?_ | refine wk ?_ | exact wkc | intro hc | refine wk2 ?_ ?_ | refine wv hs ?_ | exact trivial | exact And.intro rfl rfl | refine And.intro (fun H env => ?_) ?_ | refine And.intro (fun env => ?_) ?_ | fail)
          exact wkr
      · exact wkc
  · rw [List.take_length] at ha ⊢
    rw [ha]
    repeat' (first | refine wkt ?_ | refine wk ?_ | exact wkc | intro hc | refine wk2 ?_ ?_ | fail)
    exact wkr
end Go.Proofs.YtonjiabmcbdhdaaGreat
set_option linter.unusedVariables false
set_option linter.unusedSimpArgs false
namespace Go.Proofs.YtonjiabmcbdhdaaGreat
open Go Go.TL
attribute [local irreducible] TR TO Then InBlock RetK Sound LoopK Kf GG ThenL
theorem callR_sound (w : Plc) (hw : SmallW w) (e : Ex) (l : List Int) (inner : Bool) (hv : e.v.1 = 0 ∨ e.v.1 = 1) : Pure Tryz.prog 68 [.t (.ag (progC w.p)), .i w.node.1, .t (.ag (exC e)), .t (intsT l), .b inner] (.tup [.t (intsT (callT w e l inner).1), .i (callT w e l inner).2]) := by
  have hs := findR_sound w.p e.name (by have := hw.nodes; omega)
  unfold callT
  unfold progC at *
  cases hf : (findN w.p e.name).2 with
  | false =>
    rw [hf] at hs
    rw [if_pos (.inl rfl)]
    unfold exC
    refine Sound.of tabOk Tryz.func68 (by kernel_rfl) rfl rfl ?_
    repeat' (first | refine wkt ?_ | refine wk ?_ | exact wkc | intro hc | refine wk2 ?_ ?_ | refine wv hs ?_ | fail)
    exact wkr
  | true =>
    obtain ⟨k, hk, hf'⟩ := findN_some hf
    rw [hf'] at hs ⊢
    simp only [Bool.true_eq_false, false_or, Int.toNat_natCast, List.getElem?_eq_getElem hk] at hs ⊢
    have hn := hw.each w.p.nodes[k] (List.getElem_mem hk)
    have hx := at_nod hk
    generalize w.p.nodes[k] = n at hn hx ⊢
    have hmi : (n.ins.map declT).length = n.ins.length := List.length_map _
    have hmo : (n.outs.map declT).length = n.outs.length := List.length_map _
    have hml : (l.map T.i).length = l.length := List.length_map _
    have hi := hn.ins
    have ho := hn.outs
    unfold exC
    unfold nodC at hx
    by_cases hnode : w.node.1 ≤ (k : Int)
    · rw [if_pos hnode]
      refine Sound.of tabOk Tryz.func68 (by kernel_rfl) rfl rfl ?_
      repeat' (first | refine wkt ?_ | refine wk ?_ | exact wkc | intro hc | refine wk2 ?_ ?_ | refine wv hs ?_ | fail)
      exact wkr
    · rw [if_neg hnode]
      by_cases h9 : (l.length : Int) ≠ n.ins.length + e.v.1 ∨ (inner = true ∧ n.outs.length ≠ 1)
      · rw [if_pos h9]
        cases inner
        all_goals
          refine Sound.of tabOk Tryz.func68 (by kernel_rfl) rfl rfl ?_
          repeat' (first | refine wkt ?_ | refine wk ?_ | exact wkc | intro hc | refine wk2 ?_ ?_ | refine wv hs ?_ | fail)
          all_goals first
            | exact wkr
            | (exfalso; simp at h9; omega)
      · rw [if_neg h9]
        have h91 : (l.length : Int) = n.ins.length + e.v.1 := by
          refine Classical.byContradiction fun h => h9 (.inl h)
        have h92 : inner = true → n.outs.length = 1 := fun h => Classical.byContradiction fun h' => h9 (.inr ⟨h, h'⟩)
        clear h9
        have hlb : l.length ≤ 100000001 := by omega
        cases inner
        all_goals
          try replace h92 := h92 rfl
          refine Sound.of tabOk Tryz.func68 (by kernel_rfl) rfl rfl ?_
          repeat' (first | refine wkt ?_ | refine wk ?_ | exact wkc | intro hc | refine wk2 ?_ ?_ | refine wv hs ?_ | fail)
          refine TR.loopN n.ins.length (fun j => insOk n.ins l = insOk (n.ins.drop j) (l.drop j)) (fun j => [(3, .t (intsT l)), (7, .cp [T.n e.kind, T.n e.op, T.n e.t, T.n e.v, .s e.name, .sl 6 (e.args.map exT)] 0), (14, .cp (nodC n) 0), (15, .i j)]) (fun _ => []) rfl (fun j hlt ha => ?_) (fun ha => ?_) ⟨rfl, rfl, rfl, rfl, trivial⟩
          · have hj : j < l.length := by omega
            have hx1 := at_decl hlt
            have hx2 := at_ints hj
            rw [List.drop_eq_getElem_cons hlt, List.drop_eq_getElem_cons hj, insOk] at ha
            generalize n.ins[j] = d at hx1 ha
            generalize l[j] = t at hx2 ha
            unfold declC at hx1
            unfold nodC
            rw [ha]
            repeat' (first | refine wkt ?_ | refine wk ?_ | exact wkc | intro hc | refine wk2 ?_ ?_ | fail | fail)
            · rw [if_pos (by simp [hc])]
              exact wkr
            · refine LoopK.nextC 0 hlt ?_ rfl rfl rfl rfl rfl
              simp [show t = d.ty.1 from by simpa using hc]
          · rw [List.drop_of_length_le (Nat.le_refl _)] at ha
            rw [show insOk n.ins l = true from by rw [ha]; rfl]
            simp only [Bool.true_eq_false, if_false]
            unfold nodC
            have hgo : e.v.1 = 1 → (l.map T.i)[((n.ins.map declT).length : Int).toNat]? = some (T.i (l.getD n.ins.length 0)) := by
              intro h1
              have : n.ins.length < l.length := by omega
              rw [hmi]
              simp [this]
            by_cases hb : e.v.1 = 1 ∧ l.getD n.ins.length 0 ≠ 1
            · rw [if_pos hb]
              have hxx := hgo hb.1
              repeat' (first | refine wkt ?_ | refine wk ?_ | exact wkc | intro hc | refine wk2 ?_ ?_ | fail | fail)
              all_goals first
                | exact wkr
                | (exfalso; exact hb.2 (by simpa using hc))
                | (exfalso; exact hc hb.1)
            · rw [if_neg hb]
              have hl1 : e.v.1 = 1 → l.getD n.ins.length 0 = 1 := fun h1 => Classical.byContradiction fun h => hb ⟨h1, h⟩
              by_cases hv1 : e.v.1 = 1
              all_goals
                try (have hxx := hgo hv1; rw [hl1 hv1] at hxx)
                clear hgo hb hl1
                repeat' (first | refine wkt ?_ | refine wk ?_ | exact wkc | intro hc | refine wk2 ?_ ?_ | fail | fail)
                refine TR.tail 1 16 rfl ?_
                refine TR.loopN n.outs.length (fun _ => True) (fun j => [(14, .cp (nodC n) 0), (16, .sl 1 (((n.outs.take j).map (·.ty.1)).map T.i) 0), (17, .i j)]) (fun j => [.tail (((n.outs.take j).map (·.ty.1)).map T.i).length]) trivial (fun j hlt _ => ?_) (fun _ => ?_) ⟨rfl, rfl, rfl, trivial⟩
                · have hx1 := at_decl hlt
                  have htk : ((n.outs.take (j + 1)).map (·.ty.1)).map T.i = ((n.outs.take j).map (·.ty.1)).map T.i ++ [T.i n.outs[j].ty.1] := by rw [take_at hlt]; simp only [List.map_append, List.map_cons, List.map_nil]
                  have hmk : (((n.outs.take j).map (·.ty.1)).map T.i).length ≤ 100000000 := by simp; omega
                  generalize n.outs[j] = d at hx1 htk
                  unfold declC at hx1
                  unfold nodC
                  repeat' (first | refine wkt ?_ | refine wk ?_ | exact wkc | intro hc | refine wk2 ?_ ?_ | fail | fail)
                  exact LoopK.nextN hlt trivial (by rw [htk]; exact ⟨rfl, rfl, rfl, trivial⟩) (by rw [htk, List.length_append]; rfl)
                · rw [List.take_length]
                  unfold nodC
                  repeat' (first | refine wkt ?_ | refine wk ?_ | exact wkc | intro hc | refine wk2 ?_ ?_ | fail | fail)
                  exact wkr
abbrev ArgsR (w : Plc) (e : Ex) (l : List Int) (f : Int) : Prop := Pure Tryz.prog 64 [.t (.ag (progC w.p)), .i w.node.1, .t (declsT w.env), .t (.sl 6 (e.args.map exT))] (.tup [.t (intsT l), .i f])
abbrev ResR (w : Plc) (e : Ex) (inner : Bool) (r : List Int × Int) : Prop := Pure Tryz.prog 36 [.t (.ag (progC w.p)), .i w.node.1, .t (declsT w.env), .t (.ag (exC e)), .b inner] (.tup [.t (intsT r.1), .i r.2])
theorem resR_bad {w : Plc} {e : Ex} {l : List Int} {f : Int} (hf : f ≠ 0) (hargs : ArgsR w e l f) (inner : Bool) : ResR w e inner ([], f) := by
  unfold ArgsR ResR progC exC at *
  refine Sound.of tabOk Tryz.func36 (by kernel_rfl) rfl rfl ?_
  repeat' (first | refine wkt ?_ | refine wk ?_ | exact wkc | intro hc | refine wk2 ?_ ?_ | refine wv hargs ?_ | fail)
  exact wkr
theorem resR_1 {w : Plc} {e : Ex} {l : List Int} (hargs : ArgsR w e l 0) (h1 : e.kind.1 = 1) (inner : Bool) : ResR w e inner ([e.t.1], 0) := by
  unfold ArgsR ResR progC exC at *
  refine Sound.of tabOk Tryz.func36 (by kernel_rfl) rfl rfl ?_
  repeat' (first | refine wkt ?_ | refine wk ?_ | exact wkc | intro hc | refine wk2 ?_ ?_ | refine wv hargs ?_ | fail)
  exact wkr
theorem resR_11 {w : Plc} {e : Ex} {l : List Int} (hargs : ArgsR w e l 0) (h1 : e.kind.1 = 11) (inner : Bool) : ResR w e inner ([1], 0) := by
  unfold ArgsR ResR progC exC at *
  refine Sound.of tabOk Tryz.func36 (by kernel_rfl) rfl rfl ?_
  repeat' (first | refine wkt ?_ | refine wk ?_ | exact wkc | intro hc | refine wk2 ?_ ?_ | refine wv hargs ?_ | fail)
  exact wkr
theorem resR_2 {w : Plc} {e : Ex} {l : List Int} (hargs : ArgsR w e l 0) (h2 : e.kind.1 = 2) (hw : SmallW w) (inner : Bool) : ResR w e inner (if (lookT w.env e.name).2 = false then ([], 6) else ([(lookT w.env e.name).1], 0)) := by
  have hto := typeR_sound w.env e.name hw.env
  unfold ArgsR ResR progC exC at *
  cases hb : (lookT w.env e.name).2
  all_goals
    rw [hb] at hto
    simp only [Bool.true_eq_false, if_true, if_false]
    refine Sound.of tabOk Tryz.func36 (by kernel_rfl) rfl rfl ?_
    repeat' (first | refine wkt ?_ | refine wk ?_ | exact wkc | intro hc | refine wk2 ?_ ?_ | refine wv hargs ?_ | refine wv hto ?_ | fail)
    exact wkr
theorem resR_3 {w : Plc} {e : Ex} {l : List Int} (hargs : ArgsR w e l 0) (h3 : e.kind.1 = 3) (inner : Bool) : ResR w e inner (if (resultOp e.op.1 l).2 ≠ 0 then ([], (resultOp e.op.1 l).2) else ([(resultOp e.op.1 l).1], 0)) := by
  have hres := resultR_sound e.op.1 l
  unfold ArgsR ResR progC exC at *
  by_cases hr : (resultOp e.op.1 l).2 = 0
  · rw [if_neg (by simp [hr])]
    rw [hr] at hres
    refine Sound.of tabOk Tryz.func36 (by kernel_rfl) rfl rfl ?_
    repeat' (first | refine wkt ?_ | refine wk ?_ | exact wkc | intro hc | refine wk2 ?_ ?_ | refine wv hargs ?_ | refine wv hres ?_ | fail)
    exact wkr
  · rw [if_pos hr]
    generalize (resultOp e.op.1 l).2 = f at hr hres ⊢
    refine Sound.of tabOk Tryz.func36 (by kernel_rfl) rfl rfl ?_
    repeat' (first | refine wkt ?_ | refine wk ?_ | exact wkc | intro hc | refine wk2 ?_ ?_ | refine wv hargs ?_ | refine wv hres ?_ | fail)
    exact wkr
theorem resR_4 {w : Plc} {e : Ex} {l : List Int} (hargs : ArgsR w e l 0) (h4 : e.kind.1 = 4) (hll : l.length = 3) (inner : Bool) : ResR w e inner (if l.getD 0 0 ≠ 1 ∨ l.getD 1 0 ≠ l.getD 2 0 then ([], 10) else ([l.getD 1 0], 0)) := by
  unfold ArgsR ResR progC exC at *
  obtain ⟨a, b, c, rfl⟩ : ∃ a b c, l = [a, b, c] := by
    match l, hll with
    | [a, b, c], _ => exact ⟨a, b, c, rfl⟩
  clear hll
  simp only [List.getD_cons_zero, List.getD_cons_succ]
  by_cases hr : a ≠ 1 ∨ b ≠ c
  · rw [if_pos hr]
    refine Sound.of tabOk Tryz.func36 (by kernel_rfl) rfl rfl ?_
    repeat' (first | refine wkt ?_ | refine wk ?_ | exact wkc | intro hc | refine wk2 ?_ ?_ | refine wv hargs ?_ | (apply Go.TL.TO.ssl_hi tabOk (b := 1); exact rfl; exact rfl; exact rfl; exact rfl; exact rfl; exact rfl; exact rfl; exact rfl; omega) | (apply Go.TL.TO.ssl2 tabOk (a := 1) (b := 2); exact rfl; exact rfl; exact rfl; exact rfl; exact rfl; exact rfl; exact rfl; exact rfl; exact rfl; omega; omega) | fail)
    all_goals first
      | exact wkr
      | (exfalso; grind)
  · rw [if_neg hr]
    obtain ⟨rfl, rfl⟩ : a = 1 ∧ b = c := by
      refine ⟨Classical.byContradiction fun h => hr (.inl h), Classical.byContradiction fun h => hr (.inr h)⟩
    have hl3 : ([1, b, b].map T.i).length = 3 := rfl
    refine Sound.of tabOk Tryz.func36 (by kernel_rfl) rfl rfl ?_
    repeat' (first | refine wkt ?_ | refine wk ?_ | exact wkc | intro hc | refine wk2 ?_ ?_ | refine wv hargs ?_ | (apply Go.TL.TO.ssl_hi tabOk (b := 1); exact rfl; exact rfl; exact rfl; exact rfl; exact rfl; exact rfl; exact rfl; exact rfl; omega) | (apply Go.TL.TO.ssl2 tabOk (a := 1) (b := 2); exact rfl; exact rfl; exact rfl; exact rfl; exact rfl; exact rfl; exact rfl; exact rfl; exact rfl; omega; omega) | fail)
    all_goals first
      | exact wkr
      | (exfalso; simp_all; done)
      | (exfalso; grind)
theorem resR_55 {w : Plc} {e : Ex} {l : List Int} (hargs : ArgsR w e l 0) (h5 : e.kind.1 = 5) (hll : l.length = 1) (inner : Bool) : ResR w e inner (if eqAll l = false then ([], 10) else ([l.headD 0], 0)) := by
  unfold ArgsR ResR progC exC at *
  obtain ⟨a, rfl⟩ : ∃ a, l = [a] := by
    match l, hll with
    | [a], _ => exact ⟨a, rfl⟩
  clear hll
  rw [if_neg (by simp [eqAll])]
  simp only [List.headD_cons]
  refine Sound.of tabOk Tryz.func36 (by kernel_rfl) rfl rfl ?_
  repeat' (first | refine wkt ?_ | refine wk ?_ | exact wkc | intro hc | refine wk2 ?_ ?_ | refine wv hargs ?_ | fail)
  exact wkr
theorem resR_5 {w : Plc} {e : Ex} {l : List Int} (hargs : ArgsR w e l 0) (h5 : e.kind.1 = 6 ∨ e.kind.1 = 7) (hll : 1 ≤ l.length) (hlb : l.length ≤ 1000000000) (inner : Bool) : ResR w e inner (if eqAll l = false then ([], 10) else ([l.headD 0], 0)) := by
  have heqf := fun a r (h : l = a :: r) => alikeR_sound a r (by have := hlb; rw [h] at this; simp at this; omega)
  unfold ArgsR ResR progC exC at *
  obtain ⟨a, r, rfl⟩ : ∃ a r, l = a :: r := by
    match l, hll with
    | a :: r, _ => exact ⟨a, r, rfl⟩
  have heq := heqf a r rfl
  have hl1 : ((a :: r).map T.i).length = r.length + 1 := by simp
  clear hll heqf
  simp only [List.headD_cons]
  cases hq : eqAll (a :: r)
  all_goals
    rw [hq] at heq
    simp only [Bool.true_eq_false, if_true, if_false]
    rcases h5 with h5 | h5
    all_goals
      refine Sound.of tabOk Tryz.func36 (by kernel_rfl) rfl rfl ?_
      repeat' (first | refine wkt ?_ | refine wk ?_ | exact wkc | intro hc | refine wk2 ?_ ?_ | refine wv hargs ?_ | refine wv heq ?_ | (apply Go.TL.TO.ssl_hi tabOk (b := 1); exact rfl; exact rfl; exact rfl; exact rfl; exact rfl; exact rfl; exact rfl; exact rfl; omega) | (apply Go.TL.TO.ssl2 tabOk (a := 1) (b := 2); exact rfl; exact rfl; exact rfl; exact rfl; exact rfl; exact rfl; exact rfl; exact rfl; exact rfl; omega; omega) | fail)
      exact wkr
theorem resR_8 {w : Plc} {e : Ex} {l : List Int} (hargs : ArgsR w e l 0) (h8 : e.kind.1 = 8 ∨ e.kind.1 = 9) (hw : SmallW w) (hll : 1 ≤ l.length) (hlb : l.length ≤ 1000000000) (inner : Bool) : ResR w e inner (if clockT w.env e.name e.t.1 ≠ 0 then ([], clockT w.env e.name e.t.1) else if eqAll l = false then ([], 10) else ([l.headD 0], 0)) := by
  have heqf := fun a r (h : l = a :: r) => alikeR_sound a r (by have := hlb; rw [h] at this; simp at this; omega)
  have hck := variableR_sound w.env e.name e.t.1 hw.env
  unfold ArgsR ResR progC exC at *
  obtain ⟨a, r, rfl⟩ : ∃ a r, l = a :: r := by
    match l, hll with
    | a :: r, _ => exact ⟨a, r, rfl⟩
  have heq := heqf a r rfl
  have hl1 : ((a :: r).map T.i).length = r.length + 1 := by simp
  clear hll heqf
  simp only [List.headD_cons]
  generalize clockT w.env e.name e.t.1 = c at hck ⊢
  by_cases hc0 : c = 0
  · subst hc0
    rw [if_neg (by simp)]
    cases hq : eqAll (a :: r)
    all_goals
      rw [hq] at heq
      simp only [Bool.true_eq_false, if_true, if_false]
      rcases h8 with h5 | h5
      all_goals
        refine Sound.of tabOk Tryz.func36 (by kernel_rfl) rfl rfl ?_
        repeat' (first | refine wkt ?_ | refine wk ?_ | exact wkc | intro hc | refine wk2 ?_ ?_ | refine wv hargs ?_ | refine wv heq ?_ | refine wv hck ?_ | (apply Go.TL.TO.ssl_hi tabOk (b := 1); exact rfl; exact rfl; exact rfl; exact rfl; exact rfl; exact rfl; exact rfl; exact rfl; omega) | (apply Go.TL.TO.ssl2 tabOk (a := 1) (b := 2); exact rfl; exact rfl; exact rfl; exact rfl; exact rfl; exact rfl; exact rfl; exact rfl; exact rfl; omega; omega) | fail)
        exact wkr
  · rw [if_pos hc0]
    rcases h8 with h5 | h5
    all_goals
      refine Sound.of tabOk Tryz.func36 (by kernel_rfl) rfl rfl ?_
      repeat' (first | refine wkt ?_ | refine wk ?_ | exact wkc | intro hc | refine wk2 ?_ ?_ | refine wv hargs ?_ | refine wv hck ?_ | (apply Go.TL.TO.ssl_hi tabOk (b := 1); exact rfl; exact rfl; exact rfl; exact rfl; exact rfl; exact rfl; exact rfl; exact rfl; omega) | (apply Go.TL.TO.ssl2 tabOk (a := 1) (b := 2); exact rfl; exact rfl; exact rfl; exact rfl; exact rfl; exact rfl; exact rfl; exact rfl; exact rfl; omega; omega) | fail)
      exact wkr
theorem resR_10 {w : Plc} {e : Ex} {l : List Int} (hargs : ArgsR w e l 0) (h10 : e.kind.1 = 10) (hw : SmallW w) (hv : e.v.1 = 0 ∨ e.v.1 = 1) (inner : Bool) : ResR w e inner (callT w e l inner) := by
  have hcal := callR_sound w hw e l inner hv
  unfold ArgsR ResR progC exC at *
  refine Sound.of tabOk Tryz.func36 (by kernel_rfl) rfl rfl ?_
  repeat' (first | refine wkt ?_ | refine wk ?_ | exact wkc | intro hc | refine wk2 ?_ ?_ | refine wv hargs ?_ | refine wv hcal ?_ | fail)
  exact wkr
theorem resultsR_sound' (w : Plc) (hw : SmallW w) : ∀ (m : Nat) (e : Ex), wEx e ≤ m → wEx e ≤ 1000000000 → (∀ x ∈ flat e, Arity x) → ∀ inner, Pure Tryz.prog 36 [.t (.ag (progC w.p)), .i w.node.1, .t (declsT w.env), .t (exT e), .b inner] (.tup [.t (intsT (resT w inner e).1), .i (resT w inner e).2]) := by
  intro m
  induction m with
  | zero => intro e he; have := wEx_pos e; omega
  | succ m ih0 =>
    intro e he hb har inner
    have hlb := wEx_args e
    have hA : Arity e := har e (by rw [flat_eq]; exact List.mem_cons_self)
    have hargs := oneR_sound' w e.args (by omega) (fun x hx => ih0 x (by have := wEx_arg hx; omega) (by have := wEx_arg hx; omega) (fun y hy => har y (by
      rw [flat_eq]
      refine List.mem_cons_of_mem _ ?_
      unfold flats
      exact List.mem_flatten.2 ⟨flat x, List.mem_map.2 ⟨x, hx, rfl⟩, hy⟩)) true)
    clear ih0 har
    have hhl : (heads (e.args.map (resT w true))).2 = 0 → (heads (e.args.map (resT w true))).1.length = e.args.length := fun h => by rw [heads_len _ h]; simp
    rw [resT_eq]
    generalize heads (e.args.map (resT w true)) = h at *
    obtain ⟨l, f⟩ := h
    simp only at *
    rw [exT_eq]
    by_cases hf : f = 0
    · subst hf
      rw [if_neg (by simp)]
      have hll := hhl rfl
      unfold kindT
      have hk := hA.kind
      have h5' := hA.k5
      have h7' := hA.more
      by_cases h1 : e.kind.1 = 1
      · rw [if_pos h1]
        exact resR_1 hargs h1 inner
      rw [if_neg h1]
      by_cases h11 : e.kind.1 = 11
      · rw [if_pos h11]
        exact resR_11 hargs h11 inner
      rw [if_neg h11]
      by_cases h2 : e.kind.1 = 2
      · rw [if_pos h2]
        exact resR_2 hargs h2 hw inner
      rw [if_neg h2]
      by_cases h3 : e.kind.1 = 3
      · rw [if_pos h3]
        exact resR_3 hargs h3 inner
      rw [if_neg h3]
      by_cases h4 : e.kind.1 = 4
      · rw [if_pos h4]
        exact resR_4 hargs h4 (by rw [hll]; exact hA.k4 h4) inner
      rw [if_neg h4]
      by_cases h5 : e.kind.1 = 5 ∨ e.kind.1 = 6 ∨ e.kind.1 = 7
      · rw [if_pos h5]
        by_cases h55 : e.kind.1 = 5
        · exact resR_55 hargs h55 (by rw [hll]; exact h5' h55) inner
        exact resR_5 hargs (by omega) (by rcases Decidable.em (e.kind.1 = 5) with h | h <;> omega) (by omega) inner
      rw [if_neg h5]
      by_cases h8 : e.kind.1 = 8 ∨ e.kind.1 = 9
      · rw [if_pos h8]
        exact resR_8 hargs h8 hw (by rw [hll]; have := h7' (by omega) (by omega); omega) (by omega) inner
      rw [if_neg h8]
      exact resR_10 hargs (by omega) hw (hA.v (by omega)) inner
    · rw [if_pos hf]
      exact resR_bad hf hargs inner
theorem resultsR_sound (w : Plc) (hw : SmallW w) (e : Ex) (hb : wEx e ≤ 1000000000) (har : ∀ x ∈ flat e, Arity x) (inner : Bool) : Pure Tryz.prog 36 [.t (.ag (progC w.p)), .i w.node.1, .t (declsT w.env), .t (exT e), .b inner] (.tup [.t (intsT (resT w inner e).1), .i (resT w inner e).2]) := resultsR_sound' w hw (wEx e) e (Nat.le_refl _) hb har inner
end Go.Proofs.YtonjiabmcbdhdaaGreat
