import Derived.Test.YtlocalghkiepmaaGreatPk36
import Derived.Test.YtlocalghkiepmaaGreatPk39
import Derived.Test.YtlocalghkiepmaaGreatPk41
set_option linter.unusedSimpArgs false
set_option linter.unusedVariables false
namespace Go.Proofs.YtlocalghkiepmaaGreat
open Go Go.TL
attribute [local irreducible] TR TO Then InBlock RetK Sound LoopK Kf GG ThenL
def onEq (a b : OnC) : Bool := decide (a.name = b.name) && decide (a.t.1 = b.t.1) && decide (a.tag.1 = b.tag.1)
theorem onEq_iff (a b : OnC) : onEq a b = true ↔ a = b := by
 obtain ⟨n, t, g⟩ := a
 obtain ⟨n', t', g'⟩ := b
 simp only [onEq, Bool.and_eq_true, decide_eq_true_eq, OnC.mk.injEq, Subtype.ext_iff, and_assoc]
instance : DecidableEq OnC := fun a b => decidable_of_iff _ (onEq_iff a b)
structure ShapeN (es : List En) (n : Nod) : Prop where
 ports : ∀ d ∈ n.ins ++ n.outs, d.clock = []
 locals : ∀ d ∈ n.locals, d.clock.length ≤ 4
 eqs : ∀ u ∈ n.eqs, u.left ≠ [] ∧ exprX es u.right = 0
theorem declE_ok {es : List En} {port : Bool} {d : Decl} (h : declE es port d = 0) : (port = true → d.clock = []) ∧ d.clock.length ≤ 4 := by
 unfold declE at h
 obtain ⟨_, h⟩ := orE_zero h
 obtain ⟨_, h⟩ := orE_zero h
 obtain ⟨h1, h⟩ := orE_zero h
 obtain ⟨h2, _⟩ := orE_zero h
 refine ⟨fun hp => ?_, ?_⟩
 ·by_cases hc : d.clock.length = 0
  ·exact List.eq_nil_of_length_eq_zero hc
  ·rw [if_pos ⟨hp, hc⟩] at h1; cases h1
 ·by_cases hc : d.clock.length ≤ 4
  ·exact hc
  ·rw [if_neg hc] at h2; cases h2
theorem shapeN_of {p : Prog} (h : (shapeX p).2 = 0) : ∀ n ∈ p.nodes, ShapeN p.enums n := fun n hn => by
 have h1 := shape_nodes h n hn
 unfold nodeX at h1
 have hh : headE p.enums n = 0 := Classical.byContradiction fun hc => by rw [if_pos hc] at h1; exact hc h1
 rw [if_neg (by simp [hh])] at h1
 have he : firstE (equE p.enums) n.eqs = 0 := Classical.byContradiction fun hc => by rw [if_pos hc, firstI_snd] at h1; exact hc h1
 unfold headE at hh
 obtain ⟨_, hh⟩ := orE_zero hh
 obtain ⟨_, hh⟩ := orE_zero hh
 obtain ⟨_, hh⟩ := orE_zero hh
 obtain ⟨i1, hh⟩ := orE_zero hh
 obtain ⟨i2, i3⟩ := orE_zero hh
 refine ⟨fun d hd => ?_, fun d hd => (declE_ok (firstE_zero i3 d hd)).2, fun u hu => ?_⟩
 ·rcases List.mem_append.1 hd with hd | hd
  ·exact (declE_ok (firstE_zero i1 d hd)).1 rfl
  ·exact (declE_ok (firstE_zero i2 d hd)).1 rfl
 ·have h2 := firstE_zero he u hu
  refine ⟨fun hc => ?_, equE_ex h2⟩
  unfold equE at h2
  obtain ⟨h3, _⟩ := orE_zero h2
  rw [hc] at h3; simp at h3
structure SeenAt (p : Prog) (tags : List Str) (i : Nat) (seen : List (Int × Str × Int)) : Prop where
 t : ∀ x, (seenGet seen 0 x).isSome = true ↔ x ∈ tags
 n : ∀ nm, (seenGet seen 1 nm = none ∧ nm ∉ (p.nodes.take i).map Nod.name) ∨ (∃ k : Nat, seenGet seen 1 nm = some (k : Int) ∧ k < i ∧ ∃ n, p.nodes[k]? = some n ∧ (p.nodes.take i).find? (fun n => decide (n.name = nm)) = some n)
theorem seen_app (a b : List (Int × Str × Int)) (k : Int) (s : Str) : seenGet (a ++ b) k s = (seenGet a k s).or (seenGet b k s) := by
 unfold seenGet
 rw [List.find?_append]
 cases List.find? (fun e => decide (e.1 = k ∧ e.2.1 = s)) a <;> simp
theorem seen_one (k v : Int) (s : Str) (j : Int) (x : Str) : seenGet [(k, s, v)] j x = if k = j ∧ s = x then some v else none := by
 unfold seenGet
 by_cases h : k = j ∧ s = x
 ·rw [if_pos h]; simp [h]
 ·rw [if_neg h, List.find?_cons, decide_eq_false h]; rfl
theorem find_none {l : List Nod} {nm : Str} : l.find? (fun n => decide (n.name = nm)) = none ↔ nm ∉ l.map Nod.name := by
 simp [List.find?_eq_none]
theorem find_some {l : List Nod} {nm : Str} {n : Nod} (h : l.find? (fun n => decide (n.name = nm)) = some n) : nm ∈ l.map Nod.name := by
 have h1 := List.mem_of_find?_eq_some h
 have h2 := List.find?_some h
 exact List.mem_map.2 ⟨n, h1, by simpa using h2⟩
theorem SeenAt.isSome {p : Prog} {tags : List Str} {i : Nat} {seen : List (Int × Str × Int)} (h : SeenAt p tags i seen) (nm : Str) : (seenGet seen 1 nm).isSome = true ↔ nm ∈ (p.nodes.take i).map Nod.name := by
 rcases h.n nm with ⟨h1, h2⟩ | ⟨k, h1, _, n, _, h4⟩
 ·rw [h1]; simp only [Option.isSome_none, Bool.false_eq_true, false_iff]; exact h2
 ·rw [h1]; simp only [Option.isSome_some, true_iff]; exact find_some h4
def CallOk (p : Prog) (seen : List (Int × Str × Int)) (node : Int) : Prop := ∀ nm, (seenGet seen 1 nm = none ∧ calleeR p node nm = none) ∨ (∃ i, seenGet seen 1 nm = some i ∧ ((i < node ∧ ∃ n, p.nodes[i.toNat]? = some n ∧ calleeR p node nm = some n) ∨ (¬ i < node ∧ calleeR p node nm = none)))
theorem one_eq {p : Prog} {seen : List (Int × Str × Int)} {node : Int} (hC : CallOk p seen node) {s : Plr} (hp : s.p = p) (hn : s.node = node) {vis : List Str} (hv : ∀ x, x ∈ vis ↔ x ∈ s.vis) (left : Int) (x : Ex) : oneS p seen node vis left x = oneRf s left x := by
 unfold oneS oneRf
 have hv' := hv x.name
 rw [hp, hn]
 have hcall : callE p seen node left x = (match calleeR p node x.name with
  | none => 6
  | some n => if (x.args.length : Int) ≠ n.ins.length + x.v.1 ∨ (n.outs.length : Int) ≠ left then 9 else 0) := by
  unfold callE
  rcases hC x.name with ⟨h1, h2⟩ | ⟨i, h1, ⟨h2, n, h3, h4⟩ | ⟨h2, h3⟩⟩
  ·rw [h1, h2]
  ·rw [h1, h4]
   simp only [if_pos h2, h3]
   by_cases a1 : (x.args.length : Int) ≠ n.ins.length + x.v.1
   ·rw [if_pos a1, if_pos (.inl a1)]
   ·by_cases a2 : (n.outs.length : Int) ≠ left
    ·rw [if_neg a1, if_pos a2, if_pos (.inr a2)]
    ·rw [if_neg a1, if_neg a2, if_neg (fun h => h.elim a1 a2)]
  ·rw [h1, h3]
   simp only [if_neg h2]
 rw [hcall]
 by_cases hk : x.kind.1 = 2 ∨ x.kind.1 = 8 ∨ x.kind.1 = 9
 ·rw [if_pos hk]
  by_cases hm : x.name ∈ vis
  ·rw [if_pos hm, if_neg (fun h => h.2 (hv'.1 hm)), if_neg (by rcases hk with h | h | h <;> rw [h] <;> decide)]
  ·rw [if_neg hm, if_pos ⟨hk, fun h => hm (hv'.2 h)⟩]
 ·rw [if_neg hk]
  exact (if_neg (show ¬ ((x.kind.1 = 2 ∨ x.kind.1 = 8 ∨ x.kind.1 = 9) ∧ x.name ∉ s.vis) from fun h => hk h.1)).symm
theorem expr_eq {p : Prog} {seen : List (Int × Str × Int)} {node : Int} (hC : CallOk p seen node) {s : Plr} (hp : s.p = p) (hn : s.node = node) {vis : List Str} (hv : ∀ x, x ∈ vis ↔ x ∈ s.vis) (left : Int) (e : Ex) : exprS p seen node vis left e = exprRf s left e := by
 unfold exprS exprRf
 rw [one_eq hC hp hn hv, show oneS p seen node vis 1 = oneRf s 1 from funext fun x => one_eq hC hp hn hv 1 x]
theorem foldN_inv {A B X : Type} {f : A → X → A × Int} {g : B → X → B × Int} (R : A → B → Prop) : ∀ (l : List X), (∀ x ∈ l, ∀ a b, R a b → (f a x).2 = (g b x).2 ∧ ((g b x).2 = 0 → R (f a x).1 (g b x).1)) → ∀ a b, R a b → foldN f a l = foldN g b l
 | [], _, a, b, h => rfl
 | x :: l, hs, a, b, h => by
   obtain ⟨h1, h2⟩ := hs x (by simp) a b h
   simp only [foldN]
   by_cases h0 : (g b x).2 = 0
   ·rw [if_pos h0, if_pos (h1.trans h0), foldN_inv R l (fun y hy => hs y (by simp [hy])) _ _ (h2 h0)]
   ·rw [if_neg h0, if_neg (by rw [h1]; exact h0)]
theorem sampl_app (V : List Str) (a b : List Decl) : samplE V (a ++ b) = orE (samplE V a) (samplE V b) := by
 unfold samplE
 rw [firstE_append]; rfl
theorem sampl_nil {V : List Str} : ∀ {a : List Decl}, (∀ d ∈ a, d.clock = []) → samplE V a = 0
 | [], _ => rfl
 | d :: a, h => by
   unfold samplE
   rw [firstE, h d (by simp)]
   exact sampl_nil (V := V) (a := a) fun d hd => h d (by simp [hd])
set_option maxHeartbeats 1000000 in
theorem node_eq {p : Prog} {tags : List Str} {i : Nat} {seen : List (Int × Str × Int)} (h : SeenAt p tags i seen) {n : Nod} (hports : ∀ d ∈ n.ins ++ n.outs, d.clock = []) : (nodeT' p seen i n).2 = (nodR p i tags n).2 ∧ ((nodR p i tags n).2 ≠ 0 → (nodeT' p seen i n).1 = (nodR p i tags n).1) := by
 unfold nodeT' nodR
 by_cases hd : n.name ∈ (p.nodes.take i).map Nod.name
 ·rw [if_pos hd, if_pos ((h.isSome _).2 hd)]; exact ⟨rfl, fun _ => rfl⟩
 rw [if_neg hd, if_neg (fun hh => hd ((h.isSome _).1 hh))]
 have hC : CallOk p (seen ++ [(1, n.name, (i : Int))]) i := by
  intro nm
  rw [seen_app, seen_one]
  have hcr : calleeR p (i : Int) nm = (p.nodes.take i).find? (fun n => decide (n.name = nm)) := rfl
  rcases h.n nm with ⟨h1, h2⟩ | ⟨k, h1, h2, m, h3, h4⟩
  ·rw [h1, hcr, find_none.2 h2]
   by_cases he : n.name = nm
   ·rw [if_pos ⟨rfl, he⟩]; exact .inr ⟨i, rfl, .inr ⟨by omega, rfl⟩⟩
   ·rw [if_neg (fun hh => he hh.2)]; exact .inl ⟨rfl, rfl⟩
  ·rw [h1, hcr, h4]; exact .inr ⟨k, rfl, .inl ⟨by omega, m, h3, rfl⟩⟩
 have ht : ∀ x, (seenGet (seen ++ [(1, n.name, (i : Int))]) 0 x).isSome = true ↔ x ∈ tags := by
  intro x
  rw [seen_app, seen_one, if_neg (by rintro ⟨h, _⟩; cases h), Option.or_none]
  exact h.t x
 generalize seen ++ [(1, n.name, (i : Int))] = seen' at *
 unfold nodeS
 simp only []
 obtain ⟨d1, d2⟩ := decl_inv ht [] (varsL n)
 have hsam : ∀ V, samplE V (varsL n) = samplE V n.locals := fun V => by
  unfold varsL
  rw [sampl_app, sampl_app, sampl_nil (fun d hd => hports d (by simp [hd])), sampl_nil (fun d hd => hports d (by simp [hd])), List.append_nil]
  rfl
 have hdR : (declR [] tags (varsL n)).2 = orE (foldS (declF10 tags) [] (varsL n)).2 (samplE (foldS (declF10 tags) [] (varsL n)).1 n.locals) ∧ ((declR [] tags (varsL n)).2 = 0 → (declR [] tags (varsL n)).1 = (foldS (declF10 tags) [] (varsL n)).1) := by
  unfold declR
  rw [hsam]
  split
  ·rename_i h0; exact ⟨by simp only [orE, if_neg h0], fun hh => absurd hh h0⟩
  ·rename_i h0
   have h0' := Decidable.not_not.1 h0
   split
   ·rename_i h1; exact ⟨by simp only [orE, h0', if_true], fun hh => absurd hh h1⟩
   ·rename_i h1; exact ⟨by simp only [orE, h0', if_true]; exact (Decidable.not_not.1 h1).symm, fun _ => rfl⟩
 unfold declS
 generalize foldS (declF seen' []) lv0 (varsL n) = r1 at *
 generalize foldS (declF10 tags) [] (varsL n) = q1 at *
 generalize declR [] tags (varsL n) = Q1 at *
 obtain ⟨hd1, hd2⟩ := hdR
 by_cases z1 : q1.2 = 0
 case neg =>
  have e2 : Q1.2 = q1.2 := by rw [hd1]; simp only [orE, if_neg z1]
  rw [if_pos (show r1.2 ≠ 0 by rw [d1]; exact z1), if_pos (show Q1.2 ≠ 0 by rw [e2]; exact z1)]
  exact ⟨d1.trans e2.symm, fun _ => rfl⟩
 obtain ⟨v1, v2, v3⟩ := d2 z1
 rw [List.nil_append] at v1
 rw [if_neg (show ¬ r1.2 ≠ 0 by rw [d1, z1]; decide), ← v1]
 by_cases z2 : samplE q1.1 n.locals = 0
 case neg =>
  have e2 : Q1.2 = samplE q1.1 n.locals := by rw [hd1]; simp only [orE, z1, if_true]
  rw [if_pos z2, if_pos (show Q1.2 ≠ 0 by rw [e2]; exact z2)]
  exact ⟨e2.symm, fun _ => rfl⟩
 have eQ : Q1.2 = 0 := by rw [hd1]; simp only [orE, z1, if_true]; exact z2
 have hQ1 := hd2 eQ
 rw [if_neg (show ¬ samplE q1.1 n.locals ≠ 0 by simp [z2]), if_neg (show ¬ Q1.2 ≠ 0 by simp [eQ]), hQ1]
 have hE : ∀ vis left e, exprS p seen' i vis left e = exprRf ((⟨p, i, q1.1, n.ins.map Decl.name, tags⟩ : Plr).at vis) left e := fun vis left e => expr_eq hC (s := (⟨p, i, q1.1, n.ins.map Decl.name, tags⟩ : Plr).at vis) rfl rfl (fun x => Iff.rfl) left e
 have hI : Inv ⟨p, i, q1.1, n.ins.map Decl.name, tags⟩ [] ((n.ins.map Decl.name).foldl ins []) [] [] r1.1 := ⟨by rw [List.nil_append]; exact v1, fun y => by
  rw [mem_insL, v2]; simp, by rw [v3]; rfl, fun y => by rw [v2, v3], by rw [v3]; exact List.nodup_nil, fun y hy => by rw [v3] at hy; cases hy⟩
 have hclA : claimE p seen' i n.ins n.assume = firstE (exprRf ⟨p, i, n.ins.map Decl.name, n.ins.map Decl.name, tags⟩ 1) n.assume := by
  unfold claimE
  congr 1; funext e
  exact expr_eq hC rfl rfl (fun x => by unfold seeL; rw [mem_insL]; simp) 1 e
 have hclE : claimE p seen' i (n.ins ++ n.outs) n.ensure = firstE (exprRf ⟨p, i, n.ins.map Decl.name ++ n.outs.map Decl.name, n.ins.map Decl.name, tags⟩ 1) n.ensure := by
  unfold claimE
  congr 1; funext e
  exact expr_eq hC rfl rfl (fun x => by unfold seeL; rw [mem_insL]; simp) 1 e
 rw [hclA, hclE]
 have hT : (⟨p, i, q1.1, n.ins.map Decl.name, tags⟩ : Plr).tags = tags := rfl
 generalize (⟨p, i, q1.1, n.ins.map Decl.name, tags⟩ : Plr) = s at *
 have hstep : ∀ x ∈ n.eqs, ∀ (a' : Lv) (d : List Str), Inv s [] ((n.ins.map Decl.name).foldl ins []) [] d a' → (equS p seen' i [] ((n.ins.map Decl.name).foldl ins []) a' x).2 = (equR s d x).2 ∧ ((equR s d x).2 = 0 → Inv s [] ((n.ins.map Decl.name).foldl ins []) [] (equR s d x).1 (equS p seen' i [] ((n.ins.map Decl.name).foldl ins []) a' x).1) := fun u _ b d hb => equ_inv hE hb u
 obtain ⟨f1, f2⟩ := foldS_inv (fun (a' : Lv) (d : List Str) => Inv s [] ((n.ins.map Decl.name).foldl ins []) [] d a') n.eqs hstep r1.1 [] hI
 have f3 := foldN_inv (fun (a' : Lv) (d : List Str) => Inv s [] ((n.ins.map Decl.name).foldl ins []) [] d a') n.eqs hstep r1.1 [] hI
 rw [f3]
 generalize foldN (equR s) [] n.eqs = N at *
 generalize foldS (equS p seen' i [] ((n.ins.map Decl.name).foldl ins [])) r1.1 n.eqs = r2 at *
 generalize foldS (equR s) [] n.eqs = q2 at *
 by_cases z3 : q2.2 = 0
 case neg =>
  rw [if_pos (show r2.2 ≠ 0 by rw [f1]; exact z3), if_pos z3]
  exact ⟨f1, fun _ => rfl⟩
 rw [if_neg (show ¬ r2.2 ≠ 0 by rw [f1, z3]; decide), if_neg (show ¬ q2.2 ≠ 0 by simp [z3])]
 obtain ⟨k1, k2⟩ := foldS_inv (fun (a' : Lv) (d : List Str) => Inv s [] ((n.ins.map Decl.name).foldl ins []) [] d a') n.autos (f := autoS p seen' i 3 [] ((n.ins.map Decl.name).foldl ins [])) (g := autF (autR 3) s) (fun A _ b d hb => aut_inv 3 hE (fun x => by rw [hT]; exact ht x) hb A) r2.1 q2.1 (f2 z3)
 generalize foldS (autoS p seen' i 3 [] ((n.ins.map Decl.name).foldl ins [])) r2.1 n.autos = r3 at *
 generalize foldS (autF (autR 3) s) q2.1 n.autos = q3 at *
 by_cases z4 : q3.2 = 0
 case neg =>
  rw [if_pos z4]
  exact ⟨by simp only [orE, if_neg (show ¬ r3.2 = 0 from fun hh => z4 (k1.symm.trans hh))]; exact k1, fun _ => rfl⟩
 rw [if_neg (show ¬ q3.2 ≠ 0 by simp [z4])]
 have e4 : r3.2 = 0 := k1.trans z4
 have hI3 := k2 z4
 generalize firstE (exprRf ⟨p, i, n.ins.map Decl.name, n.ins.map Decl.name, tags⟩ 1) n.assume = cA at *
 generalize firstE (exprRf ⟨p, i, n.ins.map Decl.name ++ n.outs.map Decl.name, n.ins.map Decl.name, tags⟩ 1) n.ensure = cE at *
 by_cases z5 : cA = 0
 case neg =>
  rw [if_pos z5]
  exact ⟨by simp only [orE, e4, if_true, if_neg z5], fun _ => rfl⟩
 rw [if_neg (show ¬ cA ≠ 0 by simp [z5])]
 by_cases z6 : cE = 0
 case neg =>
  rw [if_pos z6]
  exact ⟨by simp only [orE, e4, z5, if_true, if_neg z6], fun _ => rfl⟩
 rw [if_neg (show ¬ cE ≠ 0 by simp [z6])]
 rw [locals_done, List.map_append, wo_congr (b := r3.1.done) (c := q3.1) (fun x => by rw [hI3.dd x, hI3.dfs]; rfl)]
 by_cases z7 : wo (n.outs.map Decl.name ++ n.locals.map Decl.name) q3.1 = []
 ·simp only [ne_eq, z7, not_true_eq_false, if_true, if_false]
  exact ⟨by simp only [orE, e4, z5, z6, if_true], fun hh => hh.elim⟩
 ·simp only [ne_eq, z7, not_false_eq_true, if_true, if_false]
  exact ⟨by simp only [orE, e4, z5, z6, if_true], fun _ => trivial⟩
theorem SeenAt.next {p : Prog} {tags : List Str} {i : Nat} {seen : List (Int × Str × Int)} (h : SeenAt p tags i seen) {n : Nod} (hi : p.nodes[i]? = some n) (hd : n.name ∉ (p.nodes.take i).map Nod.name) : SeenAt p tags (i + 1) (seen ++ [(1, n.name, (i : Int))]) := by
 have htk : p.nodes.take (i + 1) = p.nodes.take i ++ [n] := by rw [List.take_add_one, hi]; rfl
 refine ⟨fun x => ?_, fun nm => ?_⟩
 ·rw [seen_app, seen_one, if_neg (by rintro ⟨h, _⟩; cases h), Option.or_none]
  exact h.t x
 ·rw [seen_app, seen_one, htk, List.find?_append]
  rcases h.n nm with ⟨h1, h2⟩ | ⟨k, h1, h2, m, h3, h4⟩
  ·by_cases he : n.name = nm
   ·refine .inr ⟨i, by rw [h1, if_pos ⟨rfl, he⟩]; rfl, by omega, n, hi, ?_⟩
    rw [find_none.2 h2]
    simp [List.find?_cons, he]
   ·refine .inl ⟨by rw [h1, if_neg (fun hh => he hh.2)]; rfl, ?_⟩
    rw [List.map_append]
    simp only [List.mem_append, not_or]
    refine ⟨h2, ?_⟩
    simp only [List.map_cons, List.map_nil, List.mem_singleton]
    exact fun e => he e.symm
  ·exact .inr ⟨k, by rw [h1]; rfl, by omega, m, h3, by rw [h4]; rfl⟩
theorem nodes_eq {p : Prog} {tags : List Str} (hports : ∀ n ∈ p.nodes, ∀ d ∈ n.ins ++ n.outs, d.clock = []) : ∀ (l : List Nod) (b : Nat) (seen : List (Int × Str × Int)), p.nodes.drop b = l → SeenAt p tags b seen → (if (foldS (nodF p) seen (l.zipIdx b)).2 = 0 then ((0, 0), 0) else (placeN p seen (l.zipIdx b), (foldS (nodF p) seen (l.zipIdx b)).2)) = nods10 p tags b l
 | [], b, seen, _, _ => rfl
 | n :: l, b, seen, hl, h => by
   have hi : p.nodes[b]? = some n := by
    have : (p.nodes.drop b)[0]? = some n := by rw [hl]; rfl
    rw [List.getElem?_drop] at this; simpa using this
   have hl' : p.nodes.drop (b + 1) = l := by
    rw [← List.drop_drop, hl]; rfl
   obtain ⟨h1, h2⟩ := node_eq h (n := n) (hports n (List.mem_of_getElem? hi))
   rw [List.zipIdx_cons, foldS, placeN, nods10]
   have hF : (nodF p seen (n, b)).2 = (nodR p b tags n).2 := h1
   rw [hF]
   by_cases h0 : (nodR p b tags n).2 = 0
   ·rw [if_pos h0, if_pos h0, if_pos h0]
    have hd : n.name ∉ (p.nodes.take b).map Nod.name := fun hh => by
     unfold nodR at h0
     rw [if_pos hh] at h0; cases h0
    exact nodes_eq hports l (b + 1) _ hl' (h.next hi hd)
   ·rw [if_neg h0, if_neg h0, if_neg h0, hF, if_neg h0, h2 h0]
structure EnAt (seen : List (Int × Str × Int)) (st : List Str × List Str) : Prop where
 e : ∀ x, (seenGet seen 2 x).isSome = true ↔ x ∈ st.1
 t : ∀ x, (seenGet seen 0 x).isSome = true ↔ x ∈ st.2
 n : ∀ x, seenGet seen 1 x = none
theorem tags_eq (k : Int) (en : List Str) : ∀ (l : List Str) (seen : List (Int × Str × Int)) (tg : List Str), EnAt seen (en, tg) → (foldS addF seen (l.map fun s => ((0 : Int), s, k))).2 = (foldS tagF10 tg l).2 ∧ ((foldS tagF10 tg l).2 = 0 → EnAt (foldS addF seen (l.map fun s => ((0 : Int), s, k))).1 (en, (foldS tagF10 tg l).1))
 | [], seen, tg, h => ⟨rfl, fun _ => h⟩
 | s :: l, seen, tg, h => by
   simp only [List.map_cons, foldS]
   have ht : (seenGet seen 0 s).isSome = true ↔ s ∈ tg := h.t s
   by_cases hs : s ∈ tg
   ·have e1 : (addF seen (0, s, k)).2 = 7 := if_pos (ht.2 hs)
    have e2 : (tagF10 tg s).2 = 7 := if_pos hs
    rw [if_neg (by rw [e1]; decide), if_neg (by rw [e2]; decide), e1, e2]
    exact ⟨rfl, fun hh => absurd hh (by decide)⟩
   ·have e1 : (addF seen (0, s, k)).2 = 0 := if_neg (fun hh => hs (ht.1 hh))
    have e2 : (tagF10 tg s).2 = 0 := if_neg hs
    rw [if_pos e1, if_pos e2]
    refine tags_eq k en l _ _ ⟨fun x => ?_, fun x => ?_, fun x => ?_⟩
    ·show (seenGet (seen ++ [(0, s, k)]) 2 x).isSome = true ↔ _
     rw [seen_app, seen_one, if_neg (by rintro ⟨h, _⟩; cases h), Option.or_none]; exact h.e x
    ·show (seenGet (seen ++ [(0, s, k)]) 0 x).isSome = true ↔ x ∈ tg ++ [s]
     rw [seen_app, seen_one]
     have := h.t x
     simp only [List.mem_append, List.mem_singleton, Option.isSome_or, Bool.or_eq_true]
     rw [this]
     by_cases hx : s = x
     ·simp [hx]
     ·simp only [hx, and_false, if_false, Option.isSome_none, Bool.false_eq_true, or_false]
      exact ⟨.inl, fun h => h.elim id (fun e => absurd e.symm hx)⟩
    ·show seenGet (seen ++ [(0, s, k)]) 1 x = none
     rw [seen_app, seen_one, if_neg (by rintro ⟨h, _⟩; cases h), Option.or_none]; exact h.n x
theorem ens_eq : ∀ (l : List En) (b : Nat) (seen : List (Int × Str × Int)) (st : List Str × List Str), EnAt seen st → (foldS enF seen (l.zipIdx b)).2 = (foldS enF10 st l).2 ∧ ((foldS enF10 st l).2 = 0 → EnAt (foldS enF seen (l.zipIdx b)).1 (foldS enF10 st l).1)
 | [], b, seen, st, h => ⟨rfl, fun _ => h⟩
 | u :: l, b, seen, st, h => by
   rw [List.zipIdx_cons]
   simp only [foldS]
   have he := h.e u.name
   have key : (enF seen (u, b)).2 = (enF10 st u).2 ∧ ((enF10 st u).2 = 0 → EnAt (enF seen (u, b)).1 (enF10 st u).1) := by
    show (foldS addF seen ((2, u.name, (b : Int)) :: u.tags.map fun s => ((0 : Int), s, (b : Int)))).2 = (if u.name ∈ st.1 then 7 else (foldS tagF10 st.2 u.tags).2) ∧ ((if u.name ∈ st.1 then 7 else (foldS tagF10 st.2 u.tags).2) = 0 → EnAt (foldS addF seen ((2, u.name, (b : Int)) :: u.tags.map fun s => ((0 : Int), s, (b : Int)))).1 (st.1 ++ [u.name], (foldS tagF10 st.2 u.tags).1))
    simp only [foldS]
    by_cases hs : u.name ∈ st.1
    ·have e1 : (addF seen (2, u.name, (b : Int))).2 = 7 := if_pos (he.2 hs)
     rw [if_neg (by rw [e1]; decide), if_pos hs, e1]
     exact ⟨rfl, fun hh => absurd hh (by decide)⟩
    ·have e1 : (addF seen (2, u.name, (b : Int))).2 = 0 := if_neg (fun hh => hs (he.1 hh))
     rw [if_pos e1, if_neg hs]
     refine tags_eq b (st.1 ++ [u.name]) u.tags _ st.2 ⟨fun x => ?_, fun x => ?_, fun x => ?_⟩
     ·show (seenGet (seen ++ [(2, u.name, (b : Int))]) 2 x).isSome = true ↔ x ∈ st.1 ++ [u.name]
      rw [seen_app, seen_one]
      have := h.e x
      simp only [List.mem_append, List.mem_singleton, Option.isSome_or, Bool.or_eq_true]
      rw [this]
      by_cases hx : u.name = x
      ·simp [hx]
      ·simp only [hx, and_false, if_false, Option.isSome_none, Bool.false_eq_true, or_false]
       exact ⟨.inl, fun h => h.elim id (fun e => absurd e.symm hx)⟩
     ·show (seenGet (seen ++ [(2, u.name, (b : Int))]) 0 x).isSome = true ↔ _
      rw [seen_app, seen_one, if_neg (by rintro ⟨h, _⟩; cases h), Option.or_none]; exact h.t x
     ·show seenGet (seen ++ [(2, u.name, (b : Int))]) 1 x = none
      rw [seen_app, seen_one, if_neg (by rintro ⟨h, _⟩; cases h), Option.or_none]; exact h.n x
   by_cases h0 : (enF10 st u).2 = 0
   ·rw [if_pos h0, if_pos (key.1.trans h0)]
    exact ens_eq l (b + 1) _ _ (key.2 h0)
   ·rw [if_neg h0, if_neg (by rw [key.1]; exact h0)]
    exact ⟨key.1, fun hh => absurd hh h0⟩
theorem chk10_eq (p : Prog) : chk10 p = scopeX p := by
 unfold chk10 scopeX
 by_cases hs : (shapeX p).2 = 0
 case neg => rw [if_pos hs, if_pos hs]
 rw [if_neg (show ¬ (shapeX p).2 ≠ 0 by simp [hs]), if_neg (show ¬ (shapeX p).2 ≠ 0 by simp [hs])]
 obtain ⟨h1, h2⟩ := ens_eq p.enums 0 [] ([], []) ⟨fun x => by simp [seenGet], fun x => by simp [seenGet], fun x => by simp [seenGet]⟩
 rw [h1]
 by_cases h0 : (foldS enF10 ([], []) p.enums).2 = 0
 case neg => rw [if_pos h0, if_pos h0]
 rw [if_neg (show ¬ (foldS enF10 ([], []) p.enums).2 ≠ 0 by simp [h0]), if_neg (show ¬ (foldS enF10 ([], []) p.enums).2 ≠ 0 by simp [h0])]
 have h2 := h2 h0
 exact (nodes_eq (fun n hn => (shapeN_of hs n hn).ports) p.nodes 0 _ rfl ⟨h2.t, fun nm => .inl ⟨h2.n nm, by simp⟩⟩).symm
theorem typesR_eq (p : Prog) : typesR p = typesX p := by
 unfold typesR typesX
 rw [chk10_eq]
def Rg (x : Int) : Prop := -1 ≤ x ∧ x ≤ 1000000000
theorem rg_firstI {α : Type} (g : α → Int) : ∀ (l : List α), 0 ≤ (firstI g l).1 ∧ (firstI g l).1 ≤ l.length
 | [] => by simp [firstI]
 | x :: l => by
   have := rg_firstI g l
   rw [firstI]
   simp only [List.length_cons]
   split
   ·split
    ·simp only; omega
    ·simp only; omega
   ·simp only; omega
theorem rg_foldN {α β : Type} (f : β → α → β × Int) : ∀ (l : List α) (a : β), 0 ≤ foldN f a l ∧ foldN f a l ≤ l.length
 | [], _ => by simp [foldN]
 | x :: l, a => by
   have := rg_foldN f l (f a x).1
   rw [foldN]
   simp only [List.length_cons]
   split <;> omega
theorem rg_nodeX (es : List En) (n : Nod) (h : n.eqs.length ≤ 1000000000) : Rg (nodeX es n).1 := by
 have := rg_firstI (equE es) n.eqs
 unfold nodeX Rg
 split
 ·simp only; omega
 ·split
  ·omega
  ·simp only; omega
theorem rg_nodeT (p : Prog) (seen : List (Int × Str × Int)) (i : Int) (n : Nod) (h : n.eqs.length ≤ 1000000000) : Rg (nodeT' p seen i n).1 := by
 unfold nodeT' Rg
 split
 ·simp only; omega
 ·unfold nodeS
  simp only []
  split
  ·simp only; omega
  ·split
   ·simp only; omega
   ·split
    ·simp only
     have := rg_foldN (equS p (seen ++ [(1, n.name, i)]) i [] ((n.ins.map Decl.name).foldl ins [])) n.eqs (declS (seen ++ [(1, n.name, i)]) [] lv0 (varsL n)).1
     omega
    ·simp only; omega
theorem rg_nodeTy (w : Plc) (n : Nod) (h : n.eqs.length ≤ 1000000000) : Rg (nodeTy w n).1 := by
 have := rg_firstI (eqnT w) n.eqs
 unfold nodeTy Rg
 split
 ·omega
 ·simp only; omega
theorem rg_place (p : Prog) : ∀ (l : List (Nod × Nat)) (st : List (Int × Str × Int)), (∀ x ∈ l, x.2 ≤ 1000000000 ∧ x.1.eqs.length ≤ 1000000000) → Rg (placeN p st l).1 ∧ Rg (placeN p st l).2
 | [], _, _ => by unfold placeN Rg; decide
 | x :: l, st, h => by
   rw [placeN]
   split
   ·exact rg_place p l _ fun y hy => h y (by simp [hy])
   ·have := h x (by simp)
    exact ⟨by unfold Rg; simp only; omega, rg_nodeT p _ _ _ this.2⟩
theorem rg_tyNods (p : Prog) : ∀ (l : List (Nod × Nat)), (∀ x ∈ l, x.2 ≤ 1000000000 ∧ x.1.eqs.length ≤ 1000000000) → Rg (tyNods p l).1.1 ∧ Rg (tyNods p l).1.2
 | [], _ => by unfold tyNods Rg; decide
 | x :: l, h => by
   rw [tyNods]
   split
   ·exact rg_tyNods p l fun y hy => h y (by simp [hy])
   ·have := h x (by simp)
    exact ⟨by unfold Rg; simp only; omega, rg_nodeTy _ _ this.2⟩
theorem rg_typesX {p : Prog} (hl : p.nodes.length ≤ 1000000000) (hn : ∀ n ∈ p.nodes, n.eqs.length ≤ 1000000000) : Rg (typesX p).1.1 ∧ Rg (typesX p).1.2 := by
 have hz : ∀ x ∈ p.nodes.zipIdx, x.2 ≤ 1000000000 ∧ x.1.eqs.length ≤ 1000000000 := by
  intro x hx
  have h1 := List.mem_zipIdx hx
  have h3 := h1.2.2
  refine ⟨by omega, ?_⟩
  rw [h3]
  exact hn _ (List.getElem_mem _)
 have hsh : Rg (shapeX p).1.1 ∧ Rg (shapeX p).1.2 := by
  unfold shapeX
  split
  ·unfold Rg; simp only; omega
  ·split
   ·unfold Rg; simp only; omega
   ·split
    ·unfold Rg; simp only; omega
    ·simp only []
     have := rg_firstI (fun n => (nodeX p.enums n).2) p.nodes
     refine ⟨by unfold Rg; omega, ?_⟩
     cases hg : p.nodes[(firstI (fun n => (nodeX p.enums n).2) p.nodes).1.toNat]? with
     | none => simp [Rg]
     | some n => exact rg_nodeX _ _ (hn n (List.mem_of_getElem? hg))
 have hsc : Rg (scopeX p).1.1 ∧ Rg (scopeX p).1.2 := by
  unfold scopeX
  split
  ·exact hsh
  ·split
   ·unfold Rg; simp only; omega
   ·split
    ·unfold Rg; simp only; omega
    ·exact rg_place p _ _ hz
 unfold typesX
 split
 ·exact hsc
 ·exact rg_tyNods p _ hz
set_option maxHeartbeats 2000000 in
theorem typesChecks_law (p : Prog) (hw : (T.ag (progC p)).w ≤ 100000000) : Pure Tryz.prog 3 [.t (.ag (progC p))] (.b true) := by
 have h0 := awake_sound
 have c1 := typesX_sound p hw
 have c2 := check11_sound p hw (fun h => by
  rw [chk10_eq] at h
  unfold scopeX at h
  exact Classical.byContradiction fun hh => by rw [if_pos hh] at h; exact hh h)
 rw [typesR_eq] at c2
 obtain ⟨hP, hln, hpl⟩ := smallP_of hw
 obtain ⟨g1, g2⟩ := rg_typesX (p := p) (by omega) (fun n hn => by
  have h1 := hln n hn
  have h2 := w_nod n
  have := w_lenM equT 7 n.eqs
  omega)
 generalize typesX p = z at *
 obtain ⟨⟨z1, z2⟩, z3⟩ := z
 unfold Rg at g1 g2
 simp only at g1 g2 c1 c2
 unfold progC at *
 refine Sound.of tabOk Tryz.func3 (by kernel_rfl) rfl rfl ?_
 repeat' (first | refine wEqW ?_ | refine wkt ?_ | refine wka ?_ | refine wv c1 ?_ | refine wv c2 ?_ | refine wv h0 ?_ | refine wk ?_ | exact wkc | intro hc | refine wk2 ?_ ?_ | fail)
 all_goals first | exact wkr | skip
end Go.Proofs.YtlocalghkiepmaaGreat
