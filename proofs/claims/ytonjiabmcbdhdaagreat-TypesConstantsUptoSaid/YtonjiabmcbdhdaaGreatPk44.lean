import Derived.Test.YtonjiabmcbdhdaaGreatPk15
import Derived.Test.YtonjiabmcbdhdaaGreatPk22
import Derived.Test.YtonjiabmcbdhdaaGreatPk43
set_option linter.unusedSimpArgs false
set_option linter.unusedVariables false
namespace Go.Proofs.YtonjiabmcbdhdaaGreat
open Go Go.TL
attribute [local irreducible] TR TO Then InBlock RetK Sound LoopK Kf GG ThenL
theorem putL_append (F : Int → Ex → Ex × Int) : ∀ (a b : List Ex) (k : Int), putL F k (a ++ b) = ((putL F k a).1 ++ (putL F (putL F k a).2 b).1, (putL F (putL F k a).2 b).2)
 | [], b, k => by simp [putL]
 | x :: a, b, k => by
   rw [List.cons_append, putL, putL, putL_append F a b]; rfl
theorem putL_len (F : Int → Ex → Ex × Int) : ∀ (l : List Ex) (k : Int), (putL F k l).1.length = l.length
 | [], _ => rfl
 | a :: l, k => by rw [putL]; simp [putL_len F l]
theorem putE_le (x : Ex) (m : Nat) (e : Ex) (h : wEx e ≤ m) (k : Int) (hk : 0 ≤ k) : (putE x m k e).2 ≤ k := by
 obtain ⟨h1, h2⟩ := putE_spec x m e h k hk
 by_cases hl : (flat e).length ≤ k
 ·rw [h1 hl]; show k - _ ≤ k; omega
 ·obtain ⟨y, hy⟩ : ∃ y, (flat e)[k.toNat]? = some y := ⟨_, List.getElem?_eq_getElem (by omega)⟩
  rw [(h2 y hy).1]; omega
theorem putL_le (x : Ex) (m : Nat) : ∀ (l : List Ex), (∀ a ∈ l, wEx a ≤ m) → ∀ k : Int, (putL (putE x m) k l).2 ≤ k
 | [], _, k => Int.le_refl _
 | a :: l, h, k => by
   rw [putL]
   have ih := putL_le x m l (fun b hb => h b (by simp [hb]))
   by_cases hk : 0 ≤ k
   ·have := ih (putE x m k a).2
    have := putE_le x m a (h a (by simp)) k hk
    simp only [if_pos hk]; omega
   ·simp only [if_neg hk]; exact ih k
theorem put_sound (x : Ex) : ∀ (m : Nat) (e : Ex), wEx e ≤ m → wEx e ≤ 1000000 → ∀ k : Int, 0 ≤ k → k ≤ 1000000 →
  Pure Tryz.prog 19 [.t (.ag (exC e)), .i k, .t (.ag (exC x))] (.tup [.t (.ag (exC (putE x m k e).1)), .i (putE x m k e).2]) := by
 intro m
 induction m with
 | zero => intro e he; have := wEx_pos e; omega
 | succ m ih0 =>
   intro e he hb k hk hk2
   by_cases h0 : k = 0
   ·subst h0
    rw [putE, if_pos rfl]
    unfold exC
    refine Sound.of tabOk Tryz.func19 (by kernel_rfl) rfl rfl ?_
    repeat' (first | refine wk ?_ | exact wkc | intro hc | refine wk2 ?_ ?_ | fail | fail)
    exact wkr
   rw [putE, if_neg h0]
   have ih : ∀ a ∈ e.args, ∀ k : Int, 0 ≤ k → k ≤ 1000000 → Pure Tryz.prog 19 [.t (.ag (exC a)), .i k, .t (.ag (exC x))] (.tup [.t (.ag (exC (putE x m k a).1)), .i (putE x m k a).2]) := fun a ha => ih0 a (by have := wEx_arg ha; omega) (by have := wEx_arg ha; omega)
   clear ih0
   have hle := putL_le x m e.args (fun a ha => by have := wEx_arg ha; omega)
   have hal : e.args.length ≤ 1000000 := by
    have : ∀ l : List Ex, l.length ≤ (l.map wEx).sum := fun l => by
     induction l with
     | nil => simp
     | cons y l ih => have := wEx_pos y; simp; omega
    have h2 := wEx_eq e
    have := this e.args
    omega
   have hwa : ∀ L, (e.withArgs L).kind = e.kind ∧ (e.withArgs L).op = e.op ∧ (e.withArgs L).t = e.t ∧ (e.withArgs L).v = e.v ∧ (e.withArgs L).name = e.name ∧ (e.withArgs L).args = L := fun L => by cases e; exact ⟨rfl, rfl, rfl, rfl, rfl, rfl⟩
   have hlt2 : ∀ j, (putL (putE x m) (k - 1) (e.args.take j)).2 ≤ k - 1 := fun j => putL_le x m _ (fun a ha => by have := wEx_arg (List.mem_of_mem_take ha); omega) _
   generalize hF : putE x m = F at *
   have hml : (e.args.map exT).length = e.args.length := List.length_map _
   unfold exC at *
   rw [(hwa _).1, (hwa _).2.1, (hwa _).2.2.1, (hwa _).2.2.2.1, (hwa _).2.2.2.2.1, (hwa _).2.2.2.2.2]
   clear hwa
   generalize e.args = L at *
   refine Sound.of tabOk Tryz.func19 (by kernel_rfl) rfl rfl ?_
   repeat' (first | refine wk ?_ | exact wkc | intro hc | refine wk2 ?_ ?_ | fail | fail)
   have hf0 : putL F (k - 1) (L.take 0) = ([], k - 1) := rfl
   have hfn : ∀ (j : Nat) (hj : j < L.length), putL F (k - 1) (L.take (j + 1)) = ((putL F (k - 1) (L.take j)).1 ++ [(if 0 ≤ (putL F (k - 1) (L.take j)).2 then F (putL F (k - 1) (L.take j)).2 L[j] else (L[j], (putL F (k - 1) (L.take j)).2)).1], (if 0 ≤ (putL F (k - 1) (L.take j)).2 then F (putL F (k - 1) (L.take j)).2 L[j] else (L[j], (putL F (k - 1) (L.take j)).2)).2) := fun j hj => by
    rw [take_at hj, putL_append]; rfl
   have hfl : ∀ j, j ≤ L.length → (putL F (k - 1) (L.take j)).1.length = j := fun j hj => by rw [putL_len, List.length_take]; omega
   have hLL : putL F (k - 1) L = putL F (k - 1) (L.take L.length) := by rw [List.take_length]
   rw [hLL]
   obtain ⟨f, hf⟩ : ∃ f : Nat → List Ex × Int, ∀ j, putL F (k - 1) (L.take j) = f j := ⟨_, fun _ => rfl⟩
   simp only [hf] at hf0 hfn hfl hlt2 ⊢
   clear hle hLL hF
   refine TR.tail 6 8 rfl ?_
   refine TR.loopN L.length (fun _ => True) (fun j => [(1, .i (f j).2), (3, .ref 0 0), (5, .ref 1 0), (6, .ref 2 0), (8, .sl 6 ((f j).1.map exT) 3), (9, .i j)]) (fun j => [.cells [.t (T.n e.kind), .t (T.n e.op), .t (T.n e.t), .t (T.n e.v), .t (.s e.name), .t (.sl 6 (L.map exT))], .cells [.t (T.n x.kind), .t (T.n x.op), .t (T.n x.t), .t (T.n x.v), .t (.s x.name), .t (.sl 6 (x.args.map exT))], .cells [.i 0, .i 0, .i 0, .i 0, .t (.s []), .t (.v (.slice none 0 0))], .tail ((f j).1.map exT).length]) trivial (fun j hlt _ => ?_) (fun _ => ?_) (by rw [hf0]; exact ⟨rfl, rfl, rfl, rfl, rfl, rfl, trivial⟩) (by rw [hf0]; rfl)
   ·have hx := at_exT hlt
    have hn := hfn j hlt
    have hlj := hfl j (Nat.le_of_lt hlt)
    have hml2 : ((f j).1.map exT).length = j := by rw [List.length_map, hlj]
    have hk2' := hlt2 j
    have hi := ih L[j] (List.getElem_mem hlt) (f j).2
    generalize L[j] = a at *
    have he6 : ∀ y : Ex, T.ag [T.n y.kind, T.n y.op, T.n y.t, T.n y.v, .s y.name, .sl 6 (y.args.map exT)] = exT y := fun y => (exT_eq y).symm
    generalize f j = q at *
    obtain ⟨q1, q2⟩ := q
    simp only at hn hlj hml2 hk2' hi
    unfold exC at hx
    by_cases hq : 0 ≤ q2
    ·rw [if_pos hq] at hn
     have hi := hi hq (by omega)
     generalize F q2 a = z at *
     obtain ⟨z1, z2⟩ := z
     repeat' (first | refine wk ?_ | exact wkc | intro hc | refine wk2 ?_ ?_ | refine wv hi ?_ | fail)
     refine LoopK.nextC 4 hlt trivial rfl rfl ?_ ?_ ?_ ?_
     ·dsimp only; rw [hn, List.map_append, List.length_append]; rfl
     ·rfl
     ·(try dsimp only); rw [hn]; rfl
     ·dsimp only; rw [hn, List.map_append, List.map_cons, List.map_nil, ← he6]; exact ⟨rfl, rfl, rfl, rfl, rfl, rfl, trivial⟩
    ·rw [if_neg hq] at hn
     clear hi
     repeat' (first | refine wk ?_ | exact wkc | intro hc | refine wk2 ?_ ?_ | fail | fail)
     refine LoopK.nextC 4 hlt trivial rfl rfl ?_ ?_ ?_ ?_
     ·dsimp only; rw [hn, List.map_append, List.length_append]; rfl
     ·rfl
     ·(try dsimp only); rw [hn]; rfl
     ·dsimp only; rw [hn, List.map_append, List.map_cons, List.map_nil, ← he6]; exact ⟨rfl, rfl, rfl, rfl, rfl, rfl, trivial⟩
   ·repeat' (first | refine wk ?_ | exact wkc | intro hc | refine wk2 ?_ ?_ | fail | fail)
    exact wkr
theorem rg {n : Nat} {env0 envF : Env} {H0 : Heap} {K : TK} {id' : Nat} {l : List Oper} (t : List SV)
  (hp : Prem Tryz.prog n l.toArray (fullE l.toArray t env0) l (t.map fun v => (v, false)) [H0]) (hK : K .normal envF H0)
  (hB : (Nat.beq t.length l.length && mixB l.toArray (t.map fun _ => false)) = true := by dsimp only [List.map, List.length]; decide +kernel) (hE : forceL (fullE l.toArray t env0) = some envF := by exact rfl) :
  TR Tryz.prog n (.region id' l.toArray true) env0 H0 K := by
 simp only [Bool.and_eq_true] at hB
 have e1 : (t.map fun v => (v, false)).map (·.1) = t := by rw [List.map_map]; exact List.map_id t
 have e2 : (t.map fun v => (v, false)).map (·.2) = t.map fun _ => false := by rw [List.map_map]; rfl
 have e3 : (t.map fun _ => false).filter id = [] := by
  rw [List.filter_map]; simp
 exact TR.regionM (t.map fun v => (v, false)) [H0] hmix (by rw [e2]; exact hB.2) rfl (by rw [e1]; exact hp) (by rw [e2, e3]; rfl) (by rw [e1]; exact hE) hK
section
variable {n : Nat} {env : Env} {K : TK} {all : Array Oper} {rest : List Oper} {d : Nat} {ty : TypeId} {pos : String} {aft : Array Edge} {H : Heap} {q : Bool}
theorem TO.remN {t t' : TypeId} {x y : Operand} {a b : Nat} (hd : Nat.ble (d + 1) n = true) (hx : env.val x = some (.i a)) (hy : env.val y = some (.i b)) (hb : 0 < b)
  (k : TO q Tryz.prog n all rest ((d, .i (a % b : Nat)) :: env) H K) : TO q Tryz.prog n all (⟨some d, .binOp .rem t x y t', ty, pos, aft, none⟩ :: rest) env H K :=
 TO.brem hd hx hy (by omega) (by rw [show ((a : Int).tmod b) = ((a % b : Nat) : Int) from by rw [Int.ofNat_tmod]]; exact k)
end
abbrev In64 (t : Int) : Prop := -9223372036854775808 ≤ t ∧ t ≤ 9223372036854775807
theorem heads_range : ∀ {rs : List (List Int × Int)}, (∀ r ∈ rs, ∀ t ∈ r.1, In64 t) → ∀ t ∈ (heads rs).1, In64 t
 | [], _, t, ht => by simp [heads] at ht
 | r :: rs, h, t, ht => by
   have ih := heads_range (rs := rs) (fun x hx => h x (by simp [hx]))
   unfold heads at ht
   split at ht
   ·simp at ht
   ·split at ht
    ·simp at ht
    ·rcases List.mem_cons.1 ht with rfl | ht
     ·have := h r (by simp)
      cases hr : r.1 with
      | nil => simp [In64]
      | cons a b => rw [hr] at this; exact this a (by simp)
     ·exact ih t ht
theorem look_range (env : List Decl) (nm : Str) : In64 (lookT env nm).1 := by
 rcases lookT_idx nm env with ⟨_, h⟩ | ⟨k, hk, _, h⟩
 ·rw [h]; simp [In64]
 ·rw [h]; exact env[k].ty.2
theorem kindT_range {w : Plc} {e : Ex} {l : List Int} {b : Bool} (hl : ∀ t ∈ l, In64 t) : ∀ t ∈ (kindT w e l b).1, In64 t := by
 have hg : ∀ i, In64 (l.getD i 0) := fun i => by
  rw [List.getD_eq_getElem?_getD]
  cases h : l[i]? with
  | none => simp [In64]
  | some v => exact hl v (List.mem_of_getElem? h)
 have hh : In64 (l.headD 0) := by
  have := hg 0
  cases l <;> exact this
 have hc : ∀ t ∈ (callT w e l b).1, In64 t := fun t ht => by
  unfold callT at ht
  split at ht
  ·simp at ht
  ·split at ht
   ·simp at ht
   ·rename_i n hn
    split at ht
    ·simp at ht
    ·split at ht
     ·simp at ht
     ·split at ht
      ·simp at ht
      ·simp only [List.mem_map] at ht
       obtain ⟨d, _, rfl⟩ := ht
       exact d.ty.2
 intro t ht
 unfold kindT at ht
 repeat' split at ht
 all_goals first
  | (simp at ht; done)
  | exact hc t ht
  | (simp only [List.mem_singleton] at ht; subst ht; first | exact e.t.2 | exact hh | exact hg _ | exact look_range _ _ | (simp [In64]; done) | skip)
 unfold resultOp
 repeat' split
 all_goals simp [In64]
theorem resT_range {w : Plc} : ∀ (m : Nat) (e : Ex), wEx e ≤ m → ∀ b, ∀ t ∈ (resT w b e).1, In64 t
 | 0, e, h => by have := wEx_pos e; omega
 | m + 1, e, h => by
   intro b t ht
   rw [resT_eq] at ht
   split at ht
   ·simp at ht
   ·refine kindT_range (heads_range fun r hr => ?_) t ht
    obtain ⟨a, ha, rfl⟩ := List.mem_map.1 hr
    exact resT_range m a (by have := wEx_arg ha; omega) true
theorem ofT_range {p : Prog} {node : I64} {e : Ex} : ∀ t ∈ (ofT p node e).1, In64 t := by
 intro t ht
 unfold ofT at ht
 split at ht
 ·simp at ht
 ·split at ht
  ·simp at ht
  ·split at ht
   ·exact resT_range _ e (Nat.le_refl _) _ t ht
   ·simp at ht
theorem flat_w {e z : Ex} : z ∈ flat e → wEx z ≤ wEx e := by
 intro h
 have key : ∀ (m : Nat) (e : Ex), wEx e ≤ m → ∀ z ∈ flat e, wEx z ≤ wEx e := by
  intro m
  induction m with
  | zero => intro e he; have := wEx_pos e; omega
  | succ m ih =>
    intro e he z hz
    rcases flat_mem.1 hz with rfl | ⟨a, ha, hz⟩
    ·exact Nat.le_refl _
    ·have := wEx_arg ha
     have := ih a (by omega) z hz
     omega
 exact key _ e (Nat.le_refl _) z h
set_option maxHeartbeats 4000000 in
theorem typesConstants_law (p : Prog) (hp : SmallP p) (e : Ex) (c : UInt8) : Pure Tryz.prog 7 [.t (.ag (progC p)), .t (.ag (exC e)), .t (.v (.int .u8 (c.toNat : Int)))] (.b true) := by
 have h0 := awake_sound
 have hl := light_sound e
 have hml : (p.nodes.map nodT).length = p.nodes.length := List.length_map _
 have hpn := hp.nodes
 by_cases hn : p.nodes.length = 0
 ·clear hl
  unfold progC exC at *
  refine Sound.of tabOk Tryz.func7 (by kernel_rfl) rfl rfl ?_
  repeat' (first | refine wkt ?_ | refine wka ?_ | refine wv h0 ?_ | refine wk ?_ | exact wkc | intro hc | refine wk2 ?_ ?_ | fail)
  all_goals first
   | exact wkr
   | (exfalso; omega)
 by_cases hw : wEx e < 600
 case neg =>
  rw [decide_eq_false hw] at hl
  unfold progC exC at *
  refine Sound.of tabOk Tryz.func7 (by kernel_rfl) rfl rfl ?_
  repeat' (first | refine wkt ?_ | refine wka ?_ | refine wv h0 ?_ | refine wv hl ?_ | refine wk ?_ | exact wkc | intro hc | refine wk2 ?_ ?_ | fail)
  all_goals first
   | exact wkr
   | (exfalso; omega)
 rw [decide_eq_true hw] at hl
 obtain ⟨node, hnode⟩ : ∃ node : I64, node.1 = (p.nodes.length : Int) - 1 := ⟨⟨(p.nodes.length : Int) - 1, by omega⟩, rfl⟩
 have hof := fun x hx => of_sound11 p hp node x hx
 rw [hnode, ← hml] at hof
 have h1 := hof e (by omega)
 have hli := List_sound e (by omega)
 have hsz := sizeE_sound e (by omega)
 have hfl := flat_len e
 have hnn : p.nodes[node.1.toNat]? = some (p.nodes[p.nodes.length - 1]'(by omega)) := by
  rw [show node.1.toNat = p.nodes.length - 1 from by omega]
  exact List.getElem?_eq_getElem _
 by_cases hr : (ofT p node e).2 = 0
 case neg =>
  generalize ofT p node e = r at *
  obtain ⟨r1, r2⟩ := r
  simp only at hr h1
  clear hof hnn hli hsz
  unfold progC exC at *
  refine Sound.of tabOk Tryz.func7 (by kernel_rfl) rfl rfl ?_
  repeat' (first | refine wkt ?_ | refine wka ?_ | refine wv h0 ?_ | refine wv hl ?_ | refine wv h1 ?_ | refine wk ?_ | exact wkc | intro hc | refine wk2 ?_ ?_ | fail)
  all_goals first
   | exact wkr
   | (exfalso; omega)
 have hat : c.toNat % (flat e).length < (flat e).length := Nat.mod_lt _ (by have := wEx_pos e; omega)
 obtain ⟨q1, q2, q3⟩ := constants_law (p := p) (node := node) (by omega) hnn hr (List.getElem?_eq_getElem hat)
 have h2 := hof (flat e)[c.toNat % (flat e).length] (by have := flat_w (List.getElem_mem hat); omega)
 have hx := at_exT hat
 have hyat : (flat e)[c.toNat % (flat e).length]? = some (flat e)[c.toNat % (flat e).length] := List.getElem?_eq_getElem hat
 have hfl2 : ((flat e).map exT).length = (flat e).length := List.length_map _
 generalize (flat e)[c.toNat % (flat e).length] = y at *
 rw [← hfl2] at hat hx
 simp only [← hfl2] at q2 q3 hyat
 have hpos : 0 < ((flat e).map exT).length := by rw [hfl2, hfl]; exact wEx_pos e
 generalize hal : (flat e).map exT = all at *
 generalize hro : ofT p node e = r at *
 obtain ⟨r1, r2⟩ := r
 simp only at hr h1
 subst hr
 have hsame := same_sound r1 r1 (by have := ofT_len hp node e; rw [hro] at this; simp only at this; omega)
 rw [decide_eq_true rfl] at hsame
 by_cases hl1 : (ofT p node y).1.length = 1
 ·obtain ⟨t, ht⟩ : ∃ t, (ofT p node y).1 = [t] := List.length_eq_one_iff.1 hl1
  have htr : In64 t := ofT_range (p := p) (node := node) (e := y) t (by rw [ht]; simp)
  have hs := size_sound p.enums ⟨t, htr⟩
  have hyt : ofT p node y = ([t], 0) := Prod.ext ht q1
  rw [hyt] at h2
  have q4 := q3 ⟨t, htr⟩ hyt
  clear q1 q2 q3 hl1
  simp only [SV.n] at hs
  by_cases hz : sizeOfT p.enums t = 0
  ·rw [hz] at hs
   unfold progC exC at *
   rw [exT_eq] at hli hsz
   unfold exC at hli hsz
   refine Sound.of tabOk Tryz.func7 (by kernel_rfl) rfl rfl ?_
   repeat' (first | refine wkt ?_ | refine wka ?_ | refine rg [.t (.ag [.sl 2 (p.enums.map enT), nodesT p.nodes]), .i (((p.nodes.map nodT).length : Int) - 1), .t (.sl 6 all), .i (c.toNat % all.length : Nat), .cp [T.n y.kind, T.n y.op, T.n y.t, T.n y.v, .s y.name, .sl 6 (y.args.map exT)] 0, .t (.ag [T.n y.kind, T.n y.op, T.n y.t, T.n y.v, .s y.name, .sl 6 (y.args.map exT)]), .tup [.t (intsT [t]), .i 0], .tup [.t (intsT [t]), .i 0], .t (intsT [t]), .i 0, .t (intsT [t]), .i 0] ?_ ?_ | refine rg [.i 0, .b false, .b false, .t (intsT [t]), .i 1, .b false, .b false, .b false, .cp [.sl 2 (p.enums.map enT), nodesT p.nodes] 0, .t (.sl 2 (p.enums.map enT)), .t (intsT [t]), .cp [T.i t] 0, .i t, .i 0, .b true, .b true, .b true, .t (.v undef), .t (.v undef), .t (.v undef), .t (.v undef), .t (.v undef), .b true] ?_ ?_ | refine wv h0 ?_ | refine wv hl ?_ | refine wv h1 ?_ | refine wv h2 ?_ | refine wv hli ?_ | refine wv hs ?_ | (apply TO.remN; exact rfl; exact rfl; exact rfl; assumption) | exact trivial | exact And.intro rfl rfl | refine And.intro (fun H env => ?_) ?_ | refine And.intro (fun env => ?_) ?_ | refine wk ?_ | exact wkc | intro hc | refine wk2 ?_ ?_ | fail)
   all_goals first
    | (exfalso; exact hc rfl)
    | exact wkr
  ·have q5 := q4 hz (wEx e) (Nat.le_refl _)
   have hp3 := put_sound (cstX ⟨t, htr⟩) (wEx e) e (Nat.le_refl _) (by omega) ((c.toNat % all.length : Nat) : Int) (Int.natCast_nonneg _) (by have h1 : c.toNat < 256 := c.toNat_lt; have h2 : c.toNat % all.length ≤ c.toNat := Nat.mod_le _ _; generalize c.toNat % all.length = m at *; omega)
   obtain ⟨g1, g2, g3⟩ := cst_form ⟨t, htr⟩
   have hwx : wEx (putE (cstX ⟨t, htr⟩) (wEx e) ((c.toNat % all.length : Nat) : Int) e).1 ≤ 1000000000 := by
    have := (repl_form g1 g2 g3 ((putE_spec (cstX ⟨t, htr⟩) (wEx e) e (Nat.le_refl _) _ (Int.natCast_nonneg _)).2 y (by rw [Int.toNat_natCast]; exact hyat)).2).1
    omega
   have h3 := hof _ hwx
   rw [q5] at h3
   generalize putE (cstX ⟨t, htr⟩) (wEx e) ((c.toNat % all.length : Nat) : Int) e = z at *
   obtain ⟨x, kk⟩ := z
   simp only at h3 hp3
   unfold cstX at hp3
   clear q4 q5 hwx g1 g2 g3
   generalize sizeOfT p.enums t = sz at *
   rw [← hfl2] at hfl
   unfold progC exC at *
   rw [exT_eq] at hli hsz
   unfold exC at hli hsz
   refine Sound.of tabOk Tryz.func7 (by kernel_rfl) rfl rfl ?_
   repeat' (first | refine wkt ?_ | refine wka ?_ | refine rg [.t (.ag [.sl 2 (p.enums.map enT), nodesT p.nodes]), .i (((p.nodes.map nodT).length : Int) - 1), .t (.sl 6 all), .i (c.toNat % all.length : Nat), .cp [T.n y.kind, T.n y.op, T.n y.t, T.n y.v, .s y.name, .sl 6 (y.args.map exT)] 0, .t (.ag [T.n y.kind, T.n y.op, T.n y.t, T.n y.v, .s y.name, .sl 6 (y.args.map exT)]), .tup [.t (intsT [t]), .i 0], .tup [.t (intsT [t]), .i 0], .t (intsT [t]), .i 0, .t (intsT [t]), .i 0] ?_ ?_ | refine rg [.i 0, .b false, .b false, .t (intsT [t]), .i 1, .b false, .b false, .b false, .cp [.sl 2 (p.enums.map enT), nodesT p.nodes] 0, .t (.sl 2 (p.enums.map enT)), .t (intsT [t]), .cp [T.i t] 0, .i t, .i (sz), .b false, .b false, .b false, .t (.ag [T.n e.kind, T.n e.op, T.n e.t, T.n e.v, .s e.name, .sl 6 (e.args.map exT)]), .i (wEx e), .t (.sl 6 all), .i all.length, .b false, .b false] ?_ ?_ | refine wv h0 ?_ | refine wv hl ?_ | refine wv h1 ?_ | refine wv h2 ?_ | refine wv hli ?_ | refine wv hs ?_ | refine wv hsz ?_ | refine wv hp3 ?_ | refine wv h3 ?_ | refine wv hsame ?_ | refine Go.TL.TR.regionM (envF := _) [(.t (.ag [T.n e.kind, T.n e.op, T.n e.t, T.n e.v, .s e.name, .sl 6 (e.args.map exT)]), false), (.i (c.toNat % all.length : Nat), false), (.t (intsT [t]), false), (.cp [T.i t] 0, false), (.i t, false), (.t (.ag [T.i 1, T.i 0, T.i t, T.i 0, T.s [], .v (.slice none 0 0)]), false), (.tup [.t (.ag [T.n x.kind, T.n x.op, T.n x.t, T.n x.v, .s x.name, .sl 6 (x.args.map exT)]), .i kk], false), (.tup [.t (.ag [T.n x.kind, T.n x.op, T.n x.t, T.n x.v, .s x.name, .sl 6 (x.args.map exT)]), .i kk], false), (.t (.ag [T.n x.kind, T.n x.op, T.n x.t, T.n x.v, .s x.name, .sl 6 (x.args.map exT)]), false), (.i kk, false), (.ref 0 0, true), (.any, true), (.i kk, false)] [[], [.cells [.i 0, .i 0, .i 0, .i 0, .t (.s []), .t (.v (.slice none 0 0))]], [.cells [.n x.kind, .n x.op, .n x.t, .n x.v, .t (.s x.name), .t (.sl 6 (x.args.map exT))]]] hmix (by dsimp only [List.map]; decide +kernel) rfl ?_ rfl rfl ?_ | (apply TO.remN; exact rfl; exact rfl; exact rfl; assumption) | exact trivial | exact And.intro rfl rfl | refine And.intro (fun H env => ?_) ?_ | refine And.intro (fun env => ?_) ?_ | refine wk ?_ | exact wkc | intro hc | refine wk2 ?_ ?_ | fail)
   all_goals exact wkr
 ·generalize ofT p node y = z at *
  obtain ⟨z1, z2⟩ := z
  simp only at q1 q2 h2 hl1
  subst q1
  have hl2 : ¬ (z1.map T.i).length = 1 := by rw [List.length_map]; exact hl1
  unfold progC exC at *
  rw [exT_eq] at hli hsz
  unfold exC at hli hsz
  refine Sound.of tabOk Tryz.func7 (by kernel_rfl) rfl rfl ?_
  repeat' (first | refine wkt ?_ | refine wka ?_ | refine rg [.t (.ag [.sl 2 (p.enums.map enT), nodesT p.nodes]), .i (((p.nodes.map nodT).length : Int) - 1), .t (.sl 6 all), .i (c.toNat % all.length : Nat), .cp [T.n y.kind, T.n y.op, T.n y.t, T.n y.v, .s y.name, .sl 6 (y.args.map exT)] 0, .t (.ag [T.n y.kind, T.n y.op, T.n y.t, T.n y.v, .s y.name, .sl 6 (y.args.map exT)]), .tup [.t (intsT z1), .i 0], .tup [.t (intsT z1), .i 0], .t (intsT z1), .i 0, .t (intsT z1), .i 0] ?_ ?_ | refine rg [.i 0, .b false, .b false, .t (intsT z1), .i (z1.map T.i).length, .b true, .b true, .b true, .t (.v undef), .t (.v undef), .t (.v undef), .t (.v undef), .t (.v undef), .t (.v undef), .t (.v undef), .b true, .b true, .t (.v undef), .t (.v undef), .t (.v undef), .t (.v undef), .t (.v undef), .b true] ?_ ?_ | refine wv h0 ?_ | refine wv hl ?_ | refine wv h1 ?_ | refine wv h2 ?_ | refine wv hli ?_ | (apply TO.remN; exact rfl; exact rfl; exact rfl; assumption) | exact trivial | exact And.intro rfl rfl | refine And.intro (fun H env => ?_) ?_ | refine And.intro (fun env => ?_) ?_ | refine wk ?_ | exact wkc | intro hc | refine wk2 ?_ ?_ | fail)
  all_goals exact wkr
end Go.Proofs.YtonjiabmcbdhdaaGreat
