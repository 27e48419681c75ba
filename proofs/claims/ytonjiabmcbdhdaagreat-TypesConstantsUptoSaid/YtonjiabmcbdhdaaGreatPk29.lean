import Derived.DeepKeys5
import Derived.Test.YtonjiabmcbdhdaaGreatPk27
import Derived.Test.YtonjiabmcbdhdaaGreatPk28
set_option linter.unusedSimpArgs false
set_option linter.unusedVariables false
namespace Go.Proofs.YtonjiabmcbdhdaaGreat
open Go Go.TL
attribute [local irreducible] TR TO Then InBlock RetK Sound LoopK Kf GG ThenL
theorem firstEx_sound (fid : FuncId) (b : T) (f : Ex → Int) (l : List Ex) (hl : l.length ≤ 1000000000) (hp : ∀ x ∈ l, Pure Tryz.prog fid [.t b, .t (exT x)] (.i (f x))) :
  Pure Tryz.prog 25 [.t (.sl 6 (l.map exT)), .bnd fid [.t b]] (.i (firstE f l)) := by
 have hml : (l.map exT).length = l.length := List.length_map _
 refine Sound.of tabOk Tryz.func25 (by kernel_rfl) rfl rfl ?_
 repeat' (first | refine wk ?_ | exact wkc | intro hc | refine wk2 ?_ ?_ | fail)
 refine TR.loopN l.length (fun k => firstE f (l.take k) = 0) (fun k => [(1, .bnd fid [.t b]), (8, .t (.sl 6 (l.map exT))), (9, .i (l.map exT).length), (10, .i k)]) (fun _ => []) rfl (fun k hlt ha => ?_) (fun ha => ?_)
 ·have hx := at_map exT hlt
  have g1 := firstE_at (f := f) hlt ha
  have g2 := firstE_next (f := f) hlt ha
  have hd := hp _ (List.getElem_mem hlt)
  generalize l[k] = x at *
  generalize f x = fx at *
  rw [exT_eq x] at hx hd
  unfold exC at *
  repeat' (first | refine wkt ?_ | refine wka ?_ | refine wk ?_ | exact wkc | intro hc | refine wk2 ?_ ?_ | refine wbd hd ?_ | fail)
  ·rw [g1 hc]; exact wkr
  ·exact LoopK.nextN hlt (g2 (Decidable.not_not.1 hc))
 ·rw [firstE_all ha]
  repeat' (first | refine wk ?_ | exact wkc | intro hc | refine wk2 ?_ ?_ | fail)
  exact wkr
theorem firstTr_sound (fid : FuncId) (b : T) (f : Tran → Int) (l : List Tran) (hl : l.length ≤ 1000000000) (hp : ∀ x ∈ l, Pure Tryz.prog fid [.t b, .t (tranT x)] (.i (f x))) :
  Pure Tryz.prog 85 [.t (.sl 8 (l.map tranT)), .bnd fid [.t b]] (.i (firstE f l)) := by
 have hml : (l.map tranT).length = l.length := List.length_map _
 refine Sound.of tabOk Tryz.func85 (by kernel_rfl) rfl rfl ?_
 repeat' (first | refine wk ?_ | exact wkc | intro hc | refine wk2 ?_ ?_ | fail)
 refine TR.loopN l.length (fun k => firstE f (l.take k) = 0) (fun k => [(1, .bnd fid [.t b]), (8, .t (.sl 8 (l.map tranT))), (9, .i (l.map tranT).length), (10, .i k)]) (fun _ => []) rfl (fun k hlt ha => ?_) (fun ha => ?_)
 ·have hx := at_map tranT hlt
  have g1 := firstE_at (f := f) hlt ha
  have g2 := firstE_next (f := f) hlt ha
  have hd := hp _ (List.getElem_mem hlt)
  generalize l[k] = x at *
  generalize f x = fx at *
  rw [(show ∀ t : Tran, tranT t = .ag (tranC t) from fun _ => rfl) x] at hx hd
  unfold tranC at *
  repeat' (first | refine wkt ?_ | refine wka ?_ | refine wk ?_ | exact wkc | intro hc | refine wk2 ?_ ?_ | refine wbd hd ?_ | fail)
  ·rw [g1 hc]; exact wkr
  ·exact LoopK.nextN hlt (g2 (Decidable.not_not.1 hc))
 ·rw [firstE_all ha]
  repeat' (first | refine wk ?_ | exact wkc | intro hc | refine wk2 ?_ ?_ | fail)
  exact wkr
theorem firstEq_sound (fid : FuncId) (b : T) (f : Equ → Int) (l : List Equ) (hl : l.length ≤ 1000000000) (hp : ∀ x ∈ l, Pure Tryz.prog fid [.t b, .t (equT x)] (.i (f x))) :
  Pure Tryz.prog 88 [.t (.sl 7 (l.map equT)), .bnd fid [.t b]] (.i (firstE f l)) := by
 have hml : (l.map equT).length = l.length := List.length_map _
 refine Sound.of tabOk Tryz.func88 (by kernel_rfl) rfl rfl ?_
 repeat' (first | refine wk ?_ | exact wkc | intro hc | refine wk2 ?_ ?_ | fail)
 refine TR.loopN l.length (fun k => firstE f (l.take k) = 0) (fun k => [(1, .bnd fid [.t b]), (8, .t (.sl 7 (l.map equT))), (9, .i (l.map equT).length), (10, .i k)]) (fun _ => []) rfl (fun k hlt ha => ?_) (fun ha => ?_)
 ·have hx := at_map equT hlt
  have g1 := firstE_at (f := f) hlt ha
  have g2 := firstE_next (f := f) hlt ha
  have hd := hp _ (List.getElem_mem hlt)
  generalize l[k] = x at *
  generalize f x = fx at *
  rw [(show ∀ t : Equ, equT t = .ag (equC t) from fun _ => rfl) x] at hx hd
  unfold equC at *
  repeat' (first | refine wkt ?_ | refine wka ?_ | refine wk ?_ | exact wkc | intro hc | refine wk2 ?_ ?_ | refine wbd hd ?_ | fail)
  ·rw [g1 hc]; exact wkr
  ·exact LoopK.nextN hlt (g2 (Decidable.not_not.1 hc))
 ·rw [firstE_all ha]
  repeat' (first | refine wk ?_ | exact wkc | intro hc | refine wk2 ?_ ?_ | fail)
  exact wkr
theorem firstSt_sound (fid : FuncId) (b : T) (f : Sta → Int) (l : List Sta) (hl : l.length ≤ 1000000000) (hp : ∀ x ∈ l, Pure Tryz.prog fid [.t b, .t (staT x)] (.i (f x))) :
  Pure Tryz.prog 47 [.t (.sl 6 (l.map staT)), .bnd fid [.t b]] (.i (firstE f l)) := by
 have hml : (l.map staT).length = l.length := List.length_map _
 refine Sound.of tabOk Tryz.func47 (by kernel_rfl) rfl rfl ?_
 repeat' (first | refine wk ?_ | exact wkc | intro hc | refine wk2 ?_ ?_ | fail)
 refine TR.loopN l.length (fun k => firstE f (l.take k) = 0) (fun k => [(1, .bnd fid [.t b]), (8, .t (.sl 6 (l.map staT))), (9, .i (l.map staT).length), (10, .i k)]) (fun _ => []) rfl (fun k hlt ha => ?_) (fun ha => ?_)
 ·have hx := at_map staT hlt
  have g1 := firstE_at (f := f) hlt ha
  have g2 := firstE_next (f := f) hlt ha
  have hd := hp _ (List.getElem_mem hlt)
  generalize l[k] = x at *
  generalize f x = fx at *
  rw [staT_C x] at hx hd
  unfold staC at *
  repeat' (first | refine wkt ?_ | refine wka ?_ | refine wk ?_ | exact wkc | intro hc | refine wk2 ?_ ?_ | refine wbd hd ?_ | fail)
  ·rw [g1 hc]; exact wkr
  ·exact LoopK.nextN hlt (g2 (Decidable.not_not.1 hc))
 ·rw [firstE_all ha]
  repeat' (first | refine wk ?_ | exact wkc | intro hc | refine wk2 ?_ ?_ | fail)
  exact wkr
theorem firstAu_sound (fid : FuncId) (b : T) (f : Auto → Int) (l : List Auto) (hl : l.length ≤ 1000000000) (hp : ∀ x ∈ l, Pure Tryz.prog fid [.t b, .t (autoT x)] (.i (f x))) :
  Pure Tryz.prog 23 [.t (.sl 1 (l.map autoT)), .bnd fid [.t b]] (.i (firstE f l)) := by
 have hml : (l.map autoT).length = l.length := List.length_map _
 refine Sound.of tabOk Tryz.func23 (by kernel_rfl) rfl rfl ?_
 repeat' (first | refine wk ?_ | exact wkc | intro hc | refine wk2 ?_ ?_ | fail)
 refine TR.loopN l.length (fun k => firstE f (l.take k) = 0) (fun k => [(1, .bnd fid [.t b]), (8, .t (.sl 1 (l.map autoT))), (9, .i (l.map autoT).length), (10, .i k)]) (fun _ => []) rfl (fun k hlt ha => ?_) (fun ha => ?_)
 ·have hx := at_map autoT hlt
  have g1 := firstE_at (f := f) hlt ha
  have g2 := firstE_next (f := f) hlt ha
  have hd := hp _ (List.getElem_mem hlt)
  generalize l[k] = x at *
  generalize f x = fx at *
  rw [autoT_C x] at hx hd
  unfold autoC at *
  repeat' (first | refine wkt ?_ | refine wka ?_ | refine wk ?_ | exact wkc | intro hc | refine wk2 ?_ ?_ | refine wbd hd ?_ | fail)
  ·rw [g1 hc]; exact wkr
  ·exact LoopK.nextN hlt (g2 (Decidable.not_not.1 hc))
 ·rw [firstE_all ha]
  repeat' (first | refine wk ?_ | exact wkc | intro hc | refine wk2 ?_ ?_ | fail)
  exact wkr
theorem kStr : Maps.Keyed Tryz.prog 9 := Maps.string_keyed Tryz.underlying9
set_option maxRecDepth 100000 in
theorem kKey : Maps.Keyed Tryz.prog 96 := Maps.Keyed.of_law (deep_law_laid (m := 3) (by kernel_rfl) (by decide) (Nat.le_of_ble_eq_true (by kernel_rfl)) (by kernel_rfl) (by kernel_rfl))
theorem keyS {s : Str} (h : s.length ≤ 1000000000) : ∃ l, keyOf Tryz.prog 9 (str s) = some l := by
 refine ⟨.string s, ?_⟩
 have : (⟨s.toArray⟩ : ByteArray).size ≤ maxLen := by
  show s.toArray.size ≤ maxLen
  simp [maxLen]; omega
 simp [keyOf, Tryz.underlying9, mapKey, this]
abbrev keyV (k : Int) (s : Str) : Value := .agg #[.int .i64 k, str s]
theorem keyTy : Tryz.prog.keyType 96 = true := by kernel_rfl
theorem cells2 : Tryz.prog.cellsOf 96 = 2 := by kernel_rfl
theorem cells3 : Tryz.prog.cellsOf 3 = 1 := by kernel_rfl
theorem cells4 : Tryz.prog.cellsOf 9 = 1 := by kernel_rfl
theorem typesN : ∃ N, Tryz.prog.types.size = N + 1 := ⟨Tryz.prog.types.size - 1, by kernel_rfl⟩
theorem keyLitsK (N : Nat) {k : Int} {s : Str} (hw : (Lit.int .i64 k).wf = true) (hs : (⟨s.toArray⟩ : ByteArray).size ≤ maxLen) :
  (Tryz.prog.keyLits (N + 1 + 1) 96 [.int .i64 k, str s]) = some [.int .i64 k, .string s] := by
 have e1 : ∀ c, Tryz.prog.keyLits (N + 1) 3 [c] = (match c with | .int q' n => if q' = .i64 ∧ (Lit.int .i64 n).wf = true then some [.int .i64 n] else none | _ => none) := fun c => by
  unfold Program.keyLits
  simp only [Tryz.underlying3]
  cases c <;> rfl
 have e2 : Tryz.prog.keyLits (N + 1) 9 [str s] = some [.string s] := by
  unfold Program.keyLits
  simp only [Tryz.underlying9]
  rw [if_pos hs]
 unfold Program.keyLits
 simp only [Tryz.underlying96, cells2]
 simp only [List.length_cons, List.length_nil, List.mapM_cons, List.mapM_nil, cells3, cells4, List.drop_zero, List.take, List.drop, e1, e2, hw]
 simp
theorem keyK {k : Int} {s : Str} (hk : 0 ≤ k ∧ k ≤ 2) (h : s.length ≤ 1000000000) : ∃ l, keyOf Tryz.prog 96 (keyV k s) = some l := by
 have hs : (⟨s.toArray⟩ : ByteArray).size ≤ maxLen := by
  show s.toArray.size ≤ maxLen
  simp [maxLen]; omega
 have hw : (Lit.int .i64 k).wf = true := by
  simp only [Lit.wf, Bool.and_eq_true, decide_eq_true_eq]
  exact ⟨by show (-9223372036854775808 : Int) ≤ k; omega, by show k ≤ (9223372036854775807 : Int); omega⟩
 have h5 : (Value.agg #[.int .i64 k, str s]).formed Tryz.prog 96 = true := by
  simp only [Value.formed, Tryz.underlying96, cells2]; rfl
 obtain ⟨N, hN⟩ := typesN
 refine ⟨.string (keyBytes [.int .i64 k, .string s]), ?_⟩
 rw [keyOf, Tryz.underlying96]
 simp only [keyTy, h5, hN, Value.cells, Bool.and_self, if_true, keyLitsK N hw hs, Option.map_some]
def ins (l : List Str) (s : Str) : List Str := if s ∈ l then l else l ++ [s]
abbrev setB (l : List Str) : Blk := .map 9 4 (l.map fun s => (str s, .v (.bool true)))
abbrev seenB (l : List (Int × Str × Int)) : Blk := .map 96 3 (l.map fun e => (keyV e.1 e.2.1, .v (.int .i64 e.2.2)))
structure SetOk (l : List Str) : Prop where
 nodup : l.Nodup
 short : ∀ s ∈ l, s.length ≤ 1000000000
structure SeenOk (l : List (Int × Str × Int)) : Prop where
 nodup : (l.map fun e => (e.1, e.2.1)).Nodup
 short : ∀ e ∈ l, (0 ≤ e.1 ∧ e.1 ≤ 2) ∧ e.2.1.length ≤ 1000000000
def seenGet (l : List (Int × Str × Int)) (k : Int) (s : Str) : Option Int := (l.find? fun e => decide (e.1 = k ∧ e.2.1 = s)).map fun e => e.2.2
theorem str_inj {a b : Str} (h : str a = str b) : a = b := by
 simp only [str, Value.string.injEq, ByteArray.mk.injEq] at h
 simpa using h
theorem keyV_inj {k j : Int} {a b : Str} (h : keyV k a = keyV j b) : k = j ∧ a = b := by
 simp only [keyV, Value.agg.injEq, Array.mk.injEq, List.cons.injEq, Value.int.injEq, true_and, and_true] at h
 exact ⟨h.1, str_inj h.2⟩
theorem SetOk.nil : SetOk [] := ⟨List.nodup_nil, by simp⟩
theorem SetOk.ins {l : List Str} {s : Str} (h : SetOk l) (hs : s.length ≤ 1000000000) : SetOk (ins l s) := by
 unfold Go.Proofs.YtonjiabmcbdhdaaGreat.ins
 split
 ·exact h
 ·rename_i hn
  refine ⟨List.nodup_append.2 ⟨h.nodup, by simp, fun a ha b hb e => ?_⟩, fun x hx => ?_⟩
  ·simp at hb; subst hb; subst e; exact hn ha
  ·simp at hx; rcases hx with hx | rfl
   ·exact h.short x hx
   ·exact hs
theorem SetOk.keys {l : List Str} (h : SetOk l) : KeysOk Tryz.prog 9 (l.map fun s => (str s, .v (.bool true))) := by
 intro j e he
 rw [List.getElem?_map] at he
 cases hq : l[j]? with
 | none => rw [hq] at he; cases he
 | some s => rw [hq] at he; cases he; exact keyS (h.short s (List.mem_of_getElem? hq))
theorem SeenOk.nil : SeenOk [] := ⟨List.nodup_nil, by simp⟩
theorem SeenOk.keys {l : List (Int × Str × Int)} (h : SeenOk l) : KeysOk Tryz.prog 96 (l.map fun e => (keyV e.1 e.2.1, .v (.int .i64 e.2.2))) := by
 intro j e he
 rw [List.getElem?_map] at he
 cases hq : l[j]? with
 | none => rw [hq] at he; cases he
 | some s => rw [hq] at he; cases he; have := h.short s (List.mem_of_getElem? hq); exact keyK this.1 this.2
theorem SeenOk.add {l : List (Int × Str × Int)} {k v : Int} {s : Str} (h : SeenOk l) (hk : 0 ≤ k ∧ k ≤ 2) (hs : s.length ≤ 1000000000) (hn : seenGet l k s = none) : SeenOk (l ++ [(k, s, v)]) := by
 refine ⟨?_, fun e he => ?_⟩
 ·rw [List.map_append]
  refine List.nodup_append.2 ⟨h.nodup, by simp, fun a ha b hb e => ?_⟩
  simp at hb; subst hb; subst e
  obtain ⟨e, he, heq⟩ := List.mem_map.1 ha
  simp only [seenGet, Option.map_eq_none_iff, List.find?_eq_none, decide_eq_true_eq] at hn
  simp only [Prod.mk.injEq] at heq
  exact hn e he heq
 ·simp at he; rcases he with he | rfl
  ·exact h.short e he
  ·exact ⟨hk, hs⟩
theorem set_get {l : List Str} (h : SetOk l) (s : Str) : MapGet (l.map fun s => (str s, T.v (.bool true))) (str s) (if s ∈ l then some (.v (.bool true)) else none) := by
 by_cases hm : s ∈ l
 ·rw [if_pos hm]
  obtain ⟨j, hj⟩ := List.getElem?_of_mem hm
  refine ⟨j, by simp [hj], fun j' t' h' => ?_⟩
  rw [List.getElem?_map] at h'
  cases hq : l[j']? with
  | none => rw [hq] at h'; cases h'
  | some x =>
    rw [hq] at h'
    simp only [Option.map_some, Option.some.injEq, Prod.mk.injEq] at h'
    have := str_inj h'.1
    subst this
    exact (List.getElem?_inj (List.getElem?_eq_some_iff.1 hq).1 h.nodup).1 (hq.trans hj.symm)
 ·rw [if_neg hm]
  intro j e he e2
  rw [List.getElem?_map] at he
  cases hq : l[j]? with
  | none => rw [hq] at he; cases he
  | some x =>
    rw [hq] at he; cases he
    have := str_inj e2
    subst this
    exact hm (List.mem_of_getElem? hq)
theorem set_put {l : List Str} (h : SetOk l) (s : Str) : MapPut (l.map fun s => (str s, T.v (.bool true))) (str s) (.v (.bool true)) ((ins l s).map fun s => (str s, T.v (.bool true))) := by
 have hg := set_get h s
 unfold ins
 by_cases hm : s ∈ l
 ·rw [if_pos hm] at hg ⊢
  obtain ⟨j, hj, hu⟩ := hg
  refine .inl ⟨j, _, hj, hu, ?_⟩
  have hlt := (List.getElem?_eq_some_iff.1 hj)
  conv => rhs; rw [← hlt.2]
  rw [List.set_getElem_self]
 ·rw [if_neg hm] at hg ⊢
  exact .inr ⟨hg, by simp⟩
theorem seen_get {l : List (Int × Str × Int)} (h : SeenOk l) (k : Int) (s : Str) : MapGet (l.map fun e => (keyV e.1 e.2.1, T.v (.int .i64 e.2.2))) (keyV k s) ((seenGet l k s).map fun v => .v (.int .i64 v)) := by
 unfold seenGet
 cases hf : l.find? (fun e => decide (e.1 = k ∧ e.2.1 = s)) with
 | none =>
   rw [List.find?_eq_none] at hf
   intro j e he e2
   rw [List.getElem?_map] at he
   cases hq : l[j]? with
   | none => rw [hq] at he; cases he
   | some x =>
     rw [hq] at he; cases he
     exact hf x (List.mem_of_getElem? hq) (by simpa using keyV_inj e2)
 | some e =>
   have hm := List.mem_of_find?_eq_some hf
   have hp := List.find?_some hf
   simp only [decide_eq_true_eq] at hp
   obtain ⟨j, hj⟩ := List.getElem?_of_mem hm
   refine ⟨j, by simp [hj, hp.1, hp.2], fun j' t' h' => ?_⟩
   rw [List.getElem?_map] at h'
   cases hq : l[j']? with
   | none => rw [hq] at h'; cases h'
   | some x =>
     rw [hq] at h'
     simp only [Option.map_some, Option.some.injEq, Prod.mk.injEq] at h'
     have h1 := keyV_inj h'.1
     have e1 : (l.map fun e => (e.1, e.2.1))[j']? = some (k, s) := by simp [hq, h1.1, h1.2]
     have e2 : (l.map fun e => (e.1, e.2.1))[j]? = some (k, s) := by simp [hj, hp.1, hp.2]
     exact (List.getElem?_inj (List.getElem?_eq_some_iff.1 e1).1 h.nodup).1 (e1.trans e2.symm)
theorem key_rel {k : Int} {s : Str} {m : M} {v : Value} (h : SRel m (.t (.ag [.i k, .s s])) v) : v = keyV k s := by
 cases h with
 | t _ _ h =>
   cases h with
   | ag _ arr hs h1 h2 =>
     obtain ⟨l⟩ := arr
     match l, hs with
     | [a, b], _ =>
       have ha := h2 0 _ a rfl rfl
       have hb := h2 1 _ b rfl rfl
       cases ha; cases hb
       rfl
section
variable {n : Nat} {env : Env} {K : TK} {all : Array Oper} {rest : List Oper} {d id : Nat} {ty : TypeId} {pos : String} {aft : Array Edge} {H : Heap} {x y w : Operand} {q : Bool}
theorem TO.setGet {l : List Str} {s : Str} (hd : Nat.ble (d + 1) n = true) (hx : env.val x = some (.mp id)) (hH : H[id]? = some (setB l)) (hy : env.val y = some (.s s)) (hl : SetOk l) (hs : s.length ≤ 1000000000)
  (k1 : s ∈ l → TO q Tryz.prog n all rest ((d, .b true) :: env) H K) (k2 : s ∉ l → TO q Tryz.prog n all rest ((d, .b false) :: env) H K) :
  TO q Tryz.prog n all (⟨some d, .lookup 135 x y false, ty, pos, aft, none⟩ :: rest) env H K := by
 refine TO.lookup tabOk hd rfl rfl rfl rfl rfl kStr hx hH hl.keys hy (kx := str s) (fun m v h => h.v_eq) (keyS hs) (set_get hl s) ?_
 by_cases hm : s ∈ l
 ·rw [if_pos hm]; exact k1 hm
 ·rw [if_neg hm]; exact k2 hm
theorem TO.nilGet {s : Str} (hd : Nat.ble (d + 1) n = true) (hx : env.val x = some (.t (.v (.map none)))) (hy : env.val y = some (.s s)) (hs : s.length ≤ 1000000000) (k : TO q Tryz.prog n all rest ((d, .b false) :: env) H K) :
  TO q Tryz.prog n all (⟨some d, .lookup 135 x y false, ty, pos, aft, none⟩ :: rest) env H K :=
 TO.lookup_nil tabOk hd rfl rfl rfl rfl rfl kStr hx hy (kx := str s) (fun m v h => h.v_eq) (keyS hs) k
theorem TO.setPut {l : List Str} {s : Str} {H' : Heap} (hx : env.val x = some (.mp id)) (hH : H[id]? = some (setB l)) (hy : env.val y = some (.s s)) (hw : env.val w = some (.b true)) (hl : SetOk l) (hs : s.length ≤ 1000000000)
  (hH' : setS H id (setB (ins l s)) = some H') (k : TO false Tryz.prog n all rest env H' K) :
  TO false Tryz.prog n all (⟨none, .mapUpdate 135 x y w, ty, pos, aft, none⟩ :: rest) env H K :=
 TO.mapUpdate tabOk rfl rfl kStr hx hH hl.keys hy (kx := str s) (fun m v h => h.v_eq) (keyS hs) hw rfl (set_put hl s) (setS_eq hH').symm k
theorem TO.seenLook {l : List (Int × Str × Int)} {s : Str} {k : Int} (hd : Nat.ble (d + 1) n = true) (hx : env.val x = some (.mp id)) (hH : H[id]? = some (seenB l)) (hy : env.val y = some (.t (.ag [.i k, .s s]))) (hl : SeenOk l) (hk : 0 ≤ k ∧ k ≤ 2) (hs : s.length ≤ 1000000000)
  (k1 : ∀ v, seenGet l k s = some v → TO q Tryz.prog n all rest ((d, .tup [.i v, .b true]) :: env) H K) (k2 : seenGet l k s = none → TO q Tryz.prog n all rest ((d, .tup [.i 0, .b false]) :: env) H K) :
  TO q Tryz.prog n all (⟨some d, .lookup 91 x y true, ty, pos, aft, none⟩ :: rest) env H K := by
 refine TO.lookup tabOk hd rfl rfl rfl rfl rfl kKey hx hH hl.keys hy (kx := keyV k s) (fun m v h => key_rel h) (keyK hk hs) (seen_get hl k s) ?_
 cases hg : seenGet l k s with
 | none => exact k2 hg
 | some v => exact k1 v hg
theorem TO.seenPut {l : List (Int × Str × Int)} {s : Str} {k v : Int} {H' : Heap} (hx : env.val x = some (.mp id)) (hH : H[id]? = some (seenB l)) (hy : env.val y = some (.t (.ag [.i k, .s s]))) (hw : env.val w = some (.i v)) (hl : SeenOk l) (hn : seenGet l k s = none) (hk : 0 ≤ k ∧ k ≤ 2) (hs : s.length ≤ 1000000000)
  (hH' : setS H id (seenB (l ++ [(k, s, v)])) = some H') (kk : TO false Tryz.prog n all rest env H' K) :
  TO false Tryz.prog n all (⟨none, .mapUpdate 91 x y w, ty, pos, aft, none⟩ :: rest) env H K := by
 have hg := seen_get hl k s
 rw [hn] at hg
 exact TO.mapUpdate tabOk rfl rfl kKey hx hH hl.keys hy (kx := keyV k s) (fun m v h => key_rel h) (keyK hk hs) hw rfl (.inr ⟨hg, by rw [List.map_append]; rfl⟩) (setS_eq hH').symm kk
end
end Go.Proofs.YtonjiabmcbdhdaaGreat
namespace Go.Proofs.YtonjiabmcbdhdaaGreat
open Go Go.TL
attribute [local irreducible] TR TO Then InBlock RetK Sound LoopK Kf GG ThenL
structure Lv where
 own : List Str
 done : List Str
 defs : List Str
structure Lv.ok (a : Lv) : Prop where
 own : SetOk a.own
 done : SetOk a.done
inductive Ch where
 | one (a : Lv)
 | c1 (i : List Str) (a : Lv)
 | c2 (i : List Str) (a b : Lv)
 | c3 (i : List Str) (a b c : Lv)
 | c4 (i : List Str) (a b c d : Lv)
abbrev nilP : SV := .t (.v (.pointer none))
abbrev nilM : SV := .t (.v (.map none))
abbrev nilS : SV := .t (.v (.slice none 0 0))
abbrev rowB (l : List Str) : Blk := .row 9 (l.map T.s)
abbrev nmB (up : SV) (b : Nat) (inp : SV) (a : Lv) : Blk := .cells [up, .mp b, .mp (b + 1), inp, .rw (b + 3) (a.defs.map T.s).length]
abbrev lkB (p : Prog) (n q : Int) : Blk := .cells [.t (.sl 2 (p.enums.map enT)), .t (nodesT p.nodes), .i n, .i q, .mp 1]
namespace Ch
def vis0 : Ch → List Str
 | one _ => [] | c1 _ _ => [] | c2 _ a _ => a.own | c3 _ a b _ => a.own ++ b.own | c4 _ a b c _ => a.own ++ b.own ++ c.own
def top : Ch → Lv
 | one a => a | c1 _ a => a | c2 _ _ b => b | c3 _ _ _ c => c | c4 _ _ _ _ d => d
def low : Ch → List Str
 | one _ => [] | c1 i _ => i | c2 i a _ => i ++ a.done | c3 i a b _ => i ++ a.done ++ b.done | c4 i a b c _ => i ++ a.done ++ b.done ++ c.done
def set : Ch → Lv → Ch
 | one _, x => one x | c1 i _, x => c1 i x | c2 i a _, x => c2 i a x | c3 i a b _, x => c3 i a b x | c4 i a b c _, x => c4 i a b c x
def vis (h : Ch) : List Str := h.vis0 ++ h.top.own
def id : Ch → Nat
 | one _ => 4 | c1 .. => 4 | c2 .. => 9 | c3 .. => 13 | c4 .. => 17
def N : Ch → Nat
 | one _ => 5 | c1 .. => 7 | c2 .. => 11 | c3 .. => 15 | c4 .. => 19
def heap : Ch → Heap
 | one a => [setB a.own, setB a.done, .cells [nilP, .mp 2, .mp 3, nilM, nilS]]
 | c1 i a => [setB a.own, setB a.done, nmB nilP 2 (.mp 6) a, rowB a.defs, setB i]
 | c2 i a b => [setB a.own, setB a.done, nmB nilP 2 (.mp 6) a, rowB a.defs, setB i, setB b.own, setB b.done, nmB (.ref 4 0) 7 nilM b, rowB b.defs]
 | c3 i a b c => [setB a.own, setB a.done, nmB nilP 2 (.mp 6) a, rowB a.defs, setB i, setB b.own, setB b.done, nmB (.ref 4 0) 7 nilM b, rowB b.defs, setB c.own, setB c.done, nmB (.ref 9 0) 11 nilM c, rowB c.defs]
 | c4 i a b c d => [setB a.own, setB a.done, nmB nilP 2 (.mp 6) a, rowB a.defs, setB i, setB b.own, setB b.done, nmB (.ref 4 0) 7 nilM b, rowB b.defs, setB c.own, setB c.done, nmB (.ref 9 0) 11 nilM c, rowB c.defs, setB d.own, setB d.done, nmB (.ref 13 0) 15 nilM d, rowB d.defs]
def ok : Ch → Prop
 | one a => a.ok | c1 i a => SetOk i ∧ a.ok | c2 i a b => SetOk i ∧ a.ok ∧ b.ok | c3 i a b c => SetOk i ∧ a.ok ∧ b.ok ∧ c.ok | c4 i a b c d => SetOk i ∧ a.ok ∧ b.ok ∧ c.ok ∧ d.ok
end Ch
abbrev full (p : Prog) (n q : Int) (seen : List (Int × Str × Int)) (h : Ch) : Heap := lkB p n q :: seenB seen :: h.heap
theorem retV {rs : List ResultVar} {env : Env} {H : Heap} {v v' : SV} (hr : resAll tab env H rs = some [v']) (hv : v' = v) (hu : v.under H.length = true) (hb : blksUnder H.length H = true) :
  RetK tab rs H.length (fun r H' => r = .ret v ∧ H' = H) .ret env H := RetK.at H.length hr (by subst hv; exact Le.refl _) (Nat.le_refl _) rfl hu hb ⟨rfl, rfl⟩
theorem bsv {a b : Bool} (h : a = b) : SV.b a = SV.b b := by rw [h]
theorem sees_sound (p : Prog) (n q : Int) (seen : List (Int × Str × Int)) (h : Ch) (hk : h.ok) (nm : Str) (hs : nm.length ≤ 1000000000) :
  Sound Tryz.prog 123 [.ref h.id 0, .s nm] (full p n q seen h) (fun r H' => r = .ret (.b (decide (nm ∈ h.vis))) ∧ H' = full p n q seen h) := by
 cases h
 case one a =>
  have a1 := hk.own
  simp only [full, Ch.heap, Ch.id, Ch.vis, Ch.vis0, Ch.top]
  refine Sound.of tabOk Tryz.func123 (by kernel_rfl) rfl rfl ?_
  repeat' (first | refine wkt ?_ | refine wka ?_ | refine wk ?_ | exact wkc | intro hc | refine wk2 ?_ ?_ | (apply TO.setGet; exact rfl; exact rfl; exact rfl; exact rfl; assumption; assumption) | (apply TO.nilGet; exact rfl; exact rfl; exact rfl; assumption) | (apply TO.ne_nil_ptr tabOk; exact rfl; exact rfl; exact rfl; exact rfl; exact rfl) | (apply TO.ne_nil_nil tabOk; exact rfl; exact rfl; exact rfl; exact rfl) | refine Go.TL.TR.loop ?_ | refine Then.normal ?_ | refine Then.exit ?_ | refine Then.ret ?_ | fail)
  all_goals exact retV rfl (bsv (by simp_all)) rfl rfl
 case c1 i a =>
  have a1 := hk.2.own
  simp only [full, Ch.heap, Ch.id, Ch.vis, Ch.vis0, Ch.top]
  refine Sound.of tabOk Tryz.func123 (by kernel_rfl) rfl rfl ?_
  repeat' (first | refine wkt ?_ | refine wka ?_ | refine wk ?_ | exact wkc | intro hc | refine wk2 ?_ ?_ | (apply TO.setGet; exact rfl; exact rfl; exact rfl; exact rfl; assumption; assumption) | (apply TO.nilGet; exact rfl; exact rfl; exact rfl; assumption) | (apply TO.ne_nil_ptr tabOk; exact rfl; exact rfl; exact rfl; exact rfl; exact rfl) | (apply TO.ne_nil_nil tabOk; exact rfl; exact rfl; exact rfl; exact rfl) | refine Go.TL.TR.loop ?_ | refine Then.normal ?_ | refine Then.exit ?_ | refine Then.ret ?_ | fail)
  all_goals exact retV rfl (bsv (by simp_all)) rfl rfl
 case c2 i a b =>
  have a1 := hk.2.1.own
  have b1 := hk.2.2.own
  simp only [full, Ch.heap, Ch.id, Ch.vis, Ch.vis0, Ch.top]
  refine Sound.of tabOk Tryz.func123 (by kernel_rfl) rfl rfl ?_
  repeat' (first | refine wkt ?_ | refine wka ?_ | refine wk ?_ | exact wkc | intro hc | refine wk2 ?_ ?_ | (apply TO.setGet; exact rfl; exact rfl; exact rfl; exact rfl; assumption; assumption) | (apply TO.nilGet; exact rfl; exact rfl; exact rfl; assumption) | (apply TO.ne_nil_ptr tabOk; exact rfl; exact rfl; exact rfl; exact rfl; exact rfl) | (apply TO.ne_nil_nil tabOk; exact rfl; exact rfl; exact rfl; exact rfl) | refine Go.TL.TR.loop ?_ | refine Then.normal ?_ | refine Then.exit ?_ | refine Then.ret ?_ | fail)
  all_goals exact retV rfl (bsv (by simp_all)) rfl rfl
 case c3 i a b c =>
  have a1 := hk.2.1.own
  have b1 := hk.2.2.1.own
  have c1 := hk.2.2.2.own
  simp only [full, Ch.heap, Ch.id, Ch.vis, Ch.vis0, Ch.top]
  refine Sound.of tabOk Tryz.func123 (by kernel_rfl) rfl rfl ?_
  repeat' (first | refine wkt ?_ | refine wka ?_ | refine wk ?_ | exact wkc | intro hc | refine wk2 ?_ ?_ | (apply TO.setGet; exact rfl; exact rfl; exact rfl; exact rfl; assumption; assumption) | (apply TO.nilGet; exact rfl; exact rfl; exact rfl; assumption) | (apply TO.ne_nil_ptr tabOk; exact rfl; exact rfl; exact rfl; exact rfl; exact rfl) | (apply TO.ne_nil_nil tabOk; exact rfl; exact rfl; exact rfl; exact rfl) | refine Go.TL.TR.loop ?_ | refine Then.normal ?_ | refine Then.exit ?_ | refine Then.ret ?_ | fail)
  all_goals exact retV rfl (bsv (by simp_all)) rfl rfl
 case c4 i a b c d =>
  have a1 := hk.2.1.own
  have b1 := hk.2.2.1.own
  have c1 := hk.2.2.2.1.own
  have d1 := hk.2.2.2.2.own
  simp only [full, Ch.heap, Ch.id, Ch.vis, Ch.vis0, Ch.top]
  refine Sound.of tabOk Tryz.func123 (by kernel_rfl) rfl rfl ?_
  repeat' (first | refine wkt ?_ | refine wka ?_ | refine wk ?_ | exact wkc | intro hc | refine wk2 ?_ ?_ | (apply TO.setGet; exact rfl; exact rfl; exact rfl; exact rfl; assumption; assumption) | (apply TO.nilGet; exact rfl; exact rfl; exact rfl; assumption) | (apply TO.ne_nil_ptr tabOk; exact rfl; exact rfl; exact rfl; exact rfl; exact rfl) | (apply TO.ne_nil_nil tabOk; exact rfl; exact rfl; exact rfl; exact rfl) | refine Go.TL.TR.loop ?_ | refine Then.normal ?_ | refine Then.exit ?_ | refine Then.ret ?_ | fail)
  all_goals exact retV rfl (bsv (by simp_all)) rfl rfl
theorem defined_sound (p : Prog) (n q : Int) (seen : List (Int × Str × Int)) (h : Ch) (hk : h.ok) (nm : Str) (hs : nm.length ≤ 1000000000) :
  Sound Tryz.prog 124 [.ref h.id 0, .s nm] (full p n q seen h) (fun r H' => r = .ret (.b (decide (nm ∈ h.low ∨ nm ∈ h.top.done))) ∧ H' = full p n q seen h) := by
 cases h
 case one a =>
  have a1 := hk.done
  simp only [full, Ch.heap, Ch.id, Ch.low, Ch.top]
  refine Sound.of tabOk Tryz.func124 (by kernel_rfl) rfl rfl ?_
  repeat' (first | refine wkt ?_ | refine wka ?_ | refine wk ?_ | exact wkc | intro hc | refine wk2 ?_ ?_ | (apply TO.setGet; exact rfl; exact rfl; exact rfl; exact rfl; assumption; assumption) | (apply TO.nilGet; exact rfl; exact rfl; exact rfl; assumption) | (apply TO.ne_nil_ptr tabOk; exact rfl; exact rfl; exact rfl; exact rfl; exact rfl) | (apply TO.ne_nil_nil tabOk; exact rfl; exact rfl; exact rfl; exact rfl) | refine Go.TL.TR.loop ?_ | refine Then.normal ?_ | refine Then.exit ?_ | refine Then.ret ?_ | fail)
  all_goals exact retV rfl (bsv (by simp_all)) rfl rfl
 case c1 i a =>
  have i1 := hk.1
  have a1 := hk.2.done
  simp only [full, Ch.heap, Ch.id, Ch.low, Ch.top]
  refine Sound.of tabOk Tryz.func124 (by kernel_rfl) rfl rfl ?_
  repeat' (first | refine wkt ?_ | refine wka ?_ | refine wk ?_ | exact wkc | intro hc | refine wk2 ?_ ?_ | (apply TO.setGet; exact rfl; exact rfl; exact rfl; exact rfl; assumption; assumption) | (apply TO.nilGet; exact rfl; exact rfl; exact rfl; assumption) | (apply TO.ne_nil_ptr tabOk; exact rfl; exact rfl; exact rfl; exact rfl; exact rfl) | (apply TO.ne_nil_nil tabOk; exact rfl; exact rfl; exact rfl; exact rfl) | refine Go.TL.TR.loop ?_ | refine Then.normal ?_ | refine Then.exit ?_ | refine Then.ret ?_ | fail)
  all_goals exact retV rfl (bsv (by simp_all)) rfl rfl
 case c2 i a b =>
  have i1 := hk.1
  have a1 := hk.2.1.done
  have b1 := hk.2.2.done
  simp only [full, Ch.heap, Ch.id, Ch.low, Ch.top]
  refine Sound.of tabOk Tryz.func124 (by kernel_rfl) rfl rfl ?_
  repeat' (first | refine wkt ?_ | refine wka ?_ | refine wk ?_ | exact wkc | intro hc | refine wk2 ?_ ?_ | (apply TO.setGet; exact rfl; exact rfl; exact rfl; exact rfl; assumption; assumption) | (apply TO.nilGet; exact rfl; exact rfl; exact rfl; assumption) | (apply TO.ne_nil_ptr tabOk; exact rfl; exact rfl; exact rfl; exact rfl; exact rfl) | (apply TO.ne_nil_nil tabOk; exact rfl; exact rfl; exact rfl; exact rfl) | refine Go.TL.TR.loop ?_ | refine Then.normal ?_ | refine Then.exit ?_ | refine Then.ret ?_ | fail)
  all_goals exact retV rfl (bsv (by simp_all)) rfl rfl
 case c3 i a b c =>
  have i1 := hk.1
  have a1 := hk.2.1.done
  have b1 := hk.2.2.1.done
  have c1 := hk.2.2.2.done
  simp only [full, Ch.heap, Ch.id, Ch.low, Ch.top]
  refine Sound.of tabOk Tryz.func124 (by kernel_rfl) rfl rfl ?_
  repeat' (first | refine wkt ?_ | refine wka ?_ | refine wk ?_ | exact wkc | intro hc | refine wk2 ?_ ?_ | (apply TO.setGet; exact rfl; exact rfl; exact rfl; exact rfl; assumption; assumption) | (apply TO.nilGet; exact rfl; exact rfl; exact rfl; assumption) | (apply TO.ne_nil_ptr tabOk; exact rfl; exact rfl; exact rfl; exact rfl; exact rfl) | (apply TO.ne_nil_nil tabOk; exact rfl; exact rfl; exact rfl; exact rfl) | refine Go.TL.TR.loop ?_ | refine Then.normal ?_ | refine Then.exit ?_ | refine Then.ret ?_ | fail)
  all_goals exact retV rfl (bsv (by simp_all)) rfl rfl
 case c4 i a b c d =>
  have i1 := hk.1
  have a1 := hk.2.1.done
  have b1 := hk.2.2.1.done
  have c1 := hk.2.2.2.1.done
  have d1 := hk.2.2.2.2.done
  simp only [full, Ch.heap, Ch.id, Ch.low, Ch.top]
  refine Sound.of tabOk Tryz.func124 (by kernel_rfl) rfl rfl ?_
  repeat' (first | refine wkt ?_ | refine wka ?_ | refine wk ?_ | exact wkc | intro hc | refine wk2 ?_ ?_ | (apply TO.setGet; exact rfl; exact rfl; exact rfl; exact rfl; assumption; assumption) | (apply TO.nilGet; exact rfl; exact rfl; exact rfl; assumption) | (apply TO.ne_nil_ptr tabOk; exact rfl; exact rfl; exact rfl; exact rfl; exact rfl) | (apply TO.ne_nil_nil tabOk; exact rfl; exact rfl; exact rfl; exact rfl) | refine Go.TL.TR.loop ?_ | refine Then.normal ?_ | refine Then.exit ?_ | refine Then.ret ?_ | fail)
  all_goals exact retV rfl (bsv (by simp_all)) rfl rfl
end Go.Proofs.YtonjiabmcbdhdaaGreat
