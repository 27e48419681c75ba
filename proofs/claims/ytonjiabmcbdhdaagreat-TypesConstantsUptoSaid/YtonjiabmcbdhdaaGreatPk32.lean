import Derived.Test.YtonjiabmcbdhdaaGreatPk31
set_option linter.unusedSimpArgs false
set_option linter.unusedVariables false
namespace Go.Proofs.YtonjiabmcbdhdaaGreat
open Go Go.TL
attribute [local irreducible] TR TO Then InBlock RetK Sound LoopK Kf GG ThenL
def oneS (p : Prog) (seen : List (Int × Str × Int)) (node : Int) (vis : List Str) (left : Int) (x : Ex) : Int :=
 if x.kind.1 = 2 ∨ x.kind.1 = 8 ∨ x.kind.1 = 9 then (if x.name ∈ vis then 0 else 6) else if x.kind.1 = 10 then callE p seen node left x else 0
def exprS (p : Prog) (seen : List (Int × Str × Int)) (node : Int) (vis : List Str) (left : Int) (e : Ex) : Int := orE (oneS p seen node vis left e) (firstE (oneS p seen node vis 1) (flats e.args))
def lf (left : Int) (pre : List Ex) : Int := if pre = [] then left else 1
theorem lf_add (left : Int) (pre : List Ex) (x : Ex) : lf left (pre ++ [x]) = 1 := by simp [lf]
def panF (g : Int → Ex → Int) (left n q : Int) (Hd : Int → Heap) (pre : List Ex) (x : Ex) : Out := if g (lf left pre) x = 0 then .go else .panic (failS n q (g (lf left pre) x)) (Hd (lf left pre))
theorem scan_pan1 (g : Int → Ex → Int) (left n q : Int) (Hd : Int → Heap) : ∀ (l pre : List Ex), pre ≠ [] → scanO (panF g left n q Hd) pre l = if firstE (g 1) l = 0 then .go else .panic (failS n q (firstE (g 1) l)) (Hd 1)
 | [], pre, _ => by simp [scanO, firstE]
 | x :: l, pre, hp => by
   have h1 : lf left pre = 1 := by simp [lf, hp]
   simp only [scanO, panF, firstE, h1]
   by_cases h : g 1 x = 0
   ·simp only [h, if_true]; exact scan_pan1 g left n q Hd l _ (by simp)
   ·simp [h]
theorem scan_pan (g : Int → Ex → Int) (left n q : Int) (Hd : Int → Heap) (x : Ex) (l : List Ex) : scanO (panF g left n q Hd) [] (x :: l) = if g left x = 0 then (if firstE (g 1) l = 0 then .go else .panic (failS n q (firstE (g 1) l)) (Hd 1)) else .panic (failS n q (g left x)) (Hd left) := by
 have h1 : lf left [] = left := by simp [lf]
 simp only [scanO, panF, h1]
 by_cases h : g left x = 0
 ·simp only [h, if_true]; exact scan_pan1 g left n q Hd l _ (by simp)
 ·simp [h]
structure SmallC (p : Prog) : Prop where
 nodes : p.nodes.length ≤ 1000000000
 each : ∀ u ∈ p.nodes, u.ins.length ≤ 1000000000 ∧ u.outs.length ≤ 1000000000
def ExOk (x : Ex) : Prop := (x.kind.1 = 10 → x.v.1 = 0 ∨ x.v.1 = 1) ∧ x.name.length ≤ 1000000000
set_option maxHeartbeats 2000000 in
theorem expr_one (p : Prog) (hp : SmallC p) (n q : Int) (seen : List (Int × Str × Int)) (hse : SeenOk seen) (hsn : SeenN p seen) (node left : Int) (a : Lv) (hk : (Ch.one a).ok) (e : Ex) (hw : wEx e ≤ 1000000000) (hex : ∀ x ∈ flat e, ExOk x) :
  SS 125 [.i node, .ref 4 0, .t (.ag (exC e)), .i left] p n q seen (.one a) (.one a) (exprS p seen node (Ch.vis (.one a)) left e) := by
 have hs := Each_sound e
 rw [exT_eq] at hs
 have hc0 : exC e = [T.n e.kind, T.n e.op, T.n e.t, T.n e.v, .s e.name, .sl 6 (e.args.map exT)] := rfl
 rw [hc0] at hs ⊢
 have hz : exprS p seen node (Ch.vis (.one a)) left e = exprS p seen node (Ch.vis (.one a)) left e := rfl
 conv at hz => rhs; unfold exprS orE
 generalize exprS p seen node (Ch.vis (.one a)) left e = z at hz ⊢
 refine Sound.err rfl (fun _ => rfl) ?_
 refine Sound.of tabOk Tryz.func125 (by kernel_rfl) rfl rfl ?_
 refine TR.dead ?_
 repeat' (first | refine wkt ?_ | refine wk ?_ | exact wkc | intro hc | refine wk2 ?_ ?_ | refine wv hs ?_ | fail)
 refine TR.rangeEach e (fun pre => (full p n q seen (.one a)) ++ [.cells [.ref 0 0], .cells [.i node], .cells [.ref 4 0], .cells [.t (T.n e.kind), .t (T.n e.op), .t (T.n e.t), .t (T.n e.v), .t (.s e.name), .t (.sl 6 (e.args.map exT))], .cells [.i (lf left pre)]]) (panF (oneS p seen node (Ch.vis (.one a))) left n q (fun u => .dead :: .dead :: ((Ch.heap (.one a)) ++ [.cells [.ref 0 0], .cells [.i node], .cells [.ref 4 0], .cells [.t (T.n e.kind), .t (T.n e.op), .t (T.n e.t), .t (T.n e.v), .t (.s e.name), .t (.sl 6 (e.args.map exT))], .cells [.i u]]))) rfl hw ?_ rfl rfl (fun _ => ⟨rfl, rfl⟩) (fun pre x => ?_) (fun fn pre x post hsp => ?_) (fun fn => ?_)
 ·rw [show lf left [] = left from rfl]; rfl
 ·unfold panF
  split <;> rename_i hq <;> split at hq <;> cases hq
  ·trivial
  ·exact ⟨rfl, rfl, rfl⟩
 ·have hxk := hex x (by rw [hsp]; simp)
  have hno := hxk.2
  have hcx : exC x = [T.n x.kind, T.n x.op, T.n x.t, T.n x.v, .s x.name, .sl 6 (x.args.map exT)] := rfl
  have hcal := fun hv => callM_sound p hp.nodes hp.each n q seen hse hsn node (lf left pre) x hv hno
  have ho : oneS p seen node (Ch.vis (.one a)) (lf left pre) x = oneS p seen node (Ch.vis (.one a)) (lf left pre) x := rfl
  conv at ho => rhs; unfold oneS
  have hpf : panF (oneS p seen node (Ch.vis (.one a))) left n q (fun u => .dead :: .dead :: ((Ch.heap (.one a)) ++ [.cells [.ref 0 0], .cells [.i node], .cells [.ref 4 0], .cells [.t (T.n e.kind), .t (T.n e.op), .t (T.n e.t), .t (T.n e.v), .t (.s e.name), .t (.sl 6 (e.args.map exT))], .cells [.i u]])) pre x = if oneS p seen node (Ch.vis (.one a)) (lf left pre) x = 0 then .go else .panic (failS n q (oneS p seen node (Ch.vis (.one a)) (lf left pre) x)) (.dead :: .dead :: ((Ch.heap (.one a)) ++ [.cells [.ref 0 0], .cells [.i node], .cells [.ref 4 0], .cells [.t (T.n e.kind), .t (T.n e.op), .t (T.n e.t), .t (T.n e.v), .t (.s e.name), .t (.sl 6 (e.args.map exT))], .cells [.i (lf left pre)]])) := rfl
  have hla := lf_add left pre x
  generalize panF (oneS p seen node (Ch.vis (.one a))) left n q (fun u => .dead :: .dead :: ((Ch.heap (.one a)) ++ [.cells [.ref 0 0], .cells [.i node], .cells [.ref 4 0], .cells [.t (T.n e.kind), .t (T.n e.op), .t (T.n e.t), .t (T.n e.v), .t (.s e.name), .t (.sl 6 (e.args.map exT))], .cells [.i u]])) = pf at *
  generalize oneS p seen node (Ch.vis (.one a)) (lf left pre) x = z1 at *
  generalize lf left pre = lv at *
  rw [hcx] at hcal ⊢
  have hq : x.kind.1 = 10 ∨ x.kind.1 ≠ 10 := by omega
  rcases hq with hq | hq
  ·have hcal := hcal (hxk.1 hq)
   rw [if_neg (by omega), if_pos hq] at ho
   rw [← ho] at hcal
   repeat' (first | refine wkt ?_ | refine wk ?_ | exact wkc | intro hc | refine wk2 ?_ ?_ | fail)
   refine ⟨rfl, ?_⟩
   repeat' (first | refine wkt ?_ | refine wka ?_ | refine wkD ?_ | refine wk ?_ | exact wkc | intro hc | refine wk2 ?_ ?_ | (apply TO.setGet; exact rfl; exact rfl; exact rfl; exact rfl; assumption; assumption) | (apply TO.nilGet; exact rfl; exact rfl; exact rfl; assumption) | (apply TO.setPut; exact rfl; exact rfl; exact rfl; exact rfl; assumption; assumption; exact rfl) | refine wms ?_ | (apply TO.sees hk; exact rfl; exact rfl; (first | exact rfl | exact Ch.tk _ _ _ _ _); assumption) | (apply TO.defined hk; exact rfl; exact rfl; (first | exact rfl | exact Ch.tk _ _ _ _ _); assumption) | refine we hcal ?_ ?_ | fail)
   ·exact ⟨by rw [hpf, if_pos hc], by simp only [hla]; rfl, rfl⟩
   ·exact ⟨_, by rw [hpf, if_neg hc]; rfl, rfl, rfl⟩
  ·clear hcal
   repeat' (first | refine wkt ?_ | refine wk ?_ | exact wkc | intro hc | refine wk2 ?_ ?_ | fail)
   refine ⟨rfl, ?_⟩
   by_cases hm : x.name ∈ Ch.vis (.one a)
   ·rw [if_pos hm] at ho
    repeat' (first | refine wkt ?_ | refine Go.TL.TR.regionS (envF := _) (g := True) [(.ref 0 0, false), (.ref 4 0, false), (.cp [T.n x.kind, T.n x.op, T.n x.t, T.n x.v, .s x.name, .sl 6 (x.args.map exT)] 4, false), (.s x.name, false), (.b true, true), (.tup [], true)] hmix (by dsimp only [List.map]; decide +kernel) ?_ rfl (by decide) ?_ | refine wk ?_ | exact wkc | intro hc | refine wk2 ?_ ?_ | exact And.intro (And.intro rfl rfl) trivial | refine And.intro (fun env => ?_) ?_ | exact trivial | exact absurd hm hc | exact absurd hc hm | exact (fun hf => hf.elim) | refine wms ?_ | (apply TO.sees hk; exact rfl; exact rfl; exact rfl; assumption) | fail)
    all_goals exact ⟨by rw [hpf, if_pos (by rw [ho]; clear hpf hs; grind)], by simp only [hla]; rfl, rfl⟩
   ·rw [if_neg hm] at ho
    repeat' (first | refine wkt ?_ | refine Go.TL.TR.regionS (envF := _) (g := False) [(.ref 0 0, false), (.ref 4 0, false), (.cp [T.n x.kind, T.n x.op, T.n x.t, T.n x.v, .s x.name, .sl 6 (x.args.map exT)] 4, false), (.s x.name, false), (.b false, true), (.tup [], true)] hmix (by dsimp only [List.map]; decide +kernel) ?_ rfl (by decide) ?_ | refine wk ?_ | exact wkc | intro hc | refine wk2 ?_ ?_ | exact And.intro (And.intro rfl rfl) trivial | refine And.intro (fun env => ?_) ?_ | exact trivial | exact absurd hm hc | exact absurd hc hm | exact (fun hf => hf.elim) | refine wms ?_ | (apply TO.sees hk; exact rfl; exact rfl; exact rfl; assumption) | fail)
    all_goals first
     | exact ⟨by rw [hpf, if_pos (by rw [ho]; clear hpf hs; grind)], by simp only [hla]; rfl, rfl⟩
     | (have h6 : z1 = 6 := by rw [ho]; clear hpf hs; grind
        rw [h6, if_neg (by decide)] at hpf
        exact ⟨_, by rw [hpf]; rfl, rfl, rfl⟩)
 ·rw [flat_eq, scan_pan]
  by_cases z1 : oneS p seen node (Ch.vis (.one a)) left e = 0
  ·rw [if_pos z1] at hz ⊢
   by_cases z2 : firstE (oneS p seen node (Ch.vis (.one a)) 1) (flats e.args) = 0
   ·rw [if_pos z2]
    simp only []
    rw [z2] at hz
    repeat' (first | refine wkt ?_ | refine wk ?_ | exact wkc | intro hc | refine wk2 ?_ ?_ | fail)
    exact retSN hz rfl rfl rfl rfl
   ·rw [if_neg z2]
    simp only []
    (repeat' (first | refine LoopK.panic ?_ | refine wk ?_ | fail))
    exact retB z2 hz.symm rfl
  ·rw [if_neg z1] at hz ⊢
   simp only []
   (repeat' (first | refine LoopK.panic ?_ | refine wk ?_ | fail))
   exact retB z1 hz.symm rfl
set_option maxHeartbeats 2000000 in
theorem expr_c1 (p : Prog) (hp : SmallC p) (n q : Int) (seen : List (Int × Str × Int)) (hse : SeenOk seen) (hsn : SeenN p seen) (node left : Int) (i : List Str) (a : Lv) (hk : (Ch.c1 i a).ok) (e : Ex) (hw : wEx e ≤ 1000000000) (hex : ∀ x ∈ flat e, ExOk x) :
  SS 125 [.i node, .ref 4 0, .t (.ag (exC e)), .i left] p n q seen (.c1 i a) (.c1 i a) (exprS p seen node (Ch.vis (.c1 i a)) left e) := by
 have hs := Each_sound e
 rw [exT_eq] at hs
 have hc0 : exC e = [T.n e.kind, T.n e.op, T.n e.t, T.n e.v, .s e.name, .sl 6 (e.args.map exT)] := rfl
 rw [hc0] at hs ⊢
 have hz : exprS p seen node (Ch.vis (.c1 i a)) left e = exprS p seen node (Ch.vis (.c1 i a)) left e := rfl
 conv at hz => rhs; unfold exprS orE
 generalize exprS p seen node (Ch.vis (.c1 i a)) left e = z at hz ⊢
 refine Sound.err rfl (fun _ => rfl) ?_
 refine Sound.of tabOk Tryz.func125 (by kernel_rfl) rfl rfl ?_
 refine TR.dead ?_
 repeat' (first | refine wkt ?_ | refine wk ?_ | exact wkc | intro hc | refine wk2 ?_ ?_ | refine wv hs ?_ | fail)
 refine TR.rangeEach e (fun pre => (full p n q seen (.c1 i a)) ++ [.cells [.ref 0 0], .cells [.i node], .cells [.ref 4 0], .cells [.t (T.n e.kind), .t (T.n e.op), .t (T.n e.t), .t (T.n e.v), .t (.s e.name), .t (.sl 6 (e.args.map exT))], .cells [.i (lf left pre)]]) (panF (oneS p seen node (Ch.vis (.c1 i a))) left n q (fun u => .dead :: .dead :: ((Ch.heap (.c1 i a)) ++ [.cells [.ref 0 0], .cells [.i node], .cells [.ref 4 0], .cells [.t (T.n e.kind), .t (T.n e.op), .t (T.n e.t), .t (T.n e.v), .t (.s e.name), .t (.sl 6 (e.args.map exT))], .cells [.i u]]))) rfl hw ?_ rfl rfl (fun _ => ⟨rfl, rfl⟩) (fun pre x => ?_) (fun fn pre x post hsp => ?_) (fun fn => ?_)
 ·rw [show lf left [] = left from rfl]; rfl
 ·unfold panF
  split <;> rename_i hq <;> split at hq <;> cases hq
  ·trivial
  ·exact ⟨rfl, rfl, rfl⟩
 ·have hxk := hex x (by rw [hsp]; simp)
  have hno := hxk.2
  have hcx : exC x = [T.n x.kind, T.n x.op, T.n x.t, T.n x.v, .s x.name, .sl 6 (x.args.map exT)] := rfl
  have hcal := fun hv => callM_sound p hp.nodes hp.each n q seen hse hsn node (lf left pre) x hv hno
  have ho : oneS p seen node (Ch.vis (.c1 i a)) (lf left pre) x = oneS p seen node (Ch.vis (.c1 i a)) (lf left pre) x := rfl
  conv at ho => rhs; unfold oneS
  have hpf : panF (oneS p seen node (Ch.vis (.c1 i a))) left n q (fun u => .dead :: .dead :: ((Ch.heap (.c1 i a)) ++ [.cells [.ref 0 0], .cells [.i node], .cells [.ref 4 0], .cells [.t (T.n e.kind), .t (T.n e.op), .t (T.n e.t), .t (T.n e.v), .t (.s e.name), .t (.sl 6 (e.args.map exT))], .cells [.i u]])) pre x = if oneS p seen node (Ch.vis (.c1 i a)) (lf left pre) x = 0 then .go else .panic (failS n q (oneS p seen node (Ch.vis (.c1 i a)) (lf left pre) x)) (.dead :: .dead :: ((Ch.heap (.c1 i a)) ++ [.cells [.ref 0 0], .cells [.i node], .cells [.ref 4 0], .cells [.t (T.n e.kind), .t (T.n e.op), .t (T.n e.t), .t (T.n e.v), .t (.s e.name), .t (.sl 6 (e.args.map exT))], .cells [.i (lf left pre)]])) := rfl
  have hla := lf_add left pre x
  generalize panF (oneS p seen node (Ch.vis (.c1 i a))) left n q (fun u => .dead :: .dead :: ((Ch.heap (.c1 i a)) ++ [.cells [.ref 0 0], .cells [.i node], .cells [.ref 4 0], .cells [.t (T.n e.kind), .t (T.n e.op), .t (T.n e.t), .t (T.n e.v), .t (.s e.name), .t (.sl 6 (e.args.map exT))], .cells [.i u]])) = pf at *
  generalize oneS p seen node (Ch.vis (.c1 i a)) (lf left pre) x = z1 at *
  generalize lf left pre = lv at *
  rw [hcx] at hcal ⊢
  have hq : x.kind.1 = 10 ∨ x.kind.1 ≠ 10 := by omega
  rcases hq with hq | hq
  ·have hcal := hcal (hxk.1 hq)
   rw [if_neg (by omega), if_pos hq] at ho
   rw [← ho] at hcal
   repeat' (first | refine wkt ?_ | refine wk ?_ | exact wkc | intro hc | refine wk2 ?_ ?_ | fail)
   refine ⟨rfl, ?_⟩
   repeat' (first | refine wkt ?_ | refine wka ?_ | refine wkD ?_ | refine wk ?_ | exact wkc | intro hc | refine wk2 ?_ ?_ | (apply TO.setGet; exact rfl; exact rfl; exact rfl; exact rfl; assumption; assumption) | (apply TO.nilGet; exact rfl; exact rfl; exact rfl; assumption) | (apply TO.setPut; exact rfl; exact rfl; exact rfl; exact rfl; assumption; assumption; exact rfl) | refine wms ?_ | (apply TO.sees hk; exact rfl; exact rfl; (first | exact rfl | exact Ch.tk _ _ _ _ _); assumption) | (apply TO.defined hk; exact rfl; exact rfl; (first | exact rfl | exact Ch.tk _ _ _ _ _); assumption) | refine we hcal ?_ ?_ | fail)
   ·exact ⟨by rw [hpf, if_pos hc], by simp only [hla]; rfl, rfl⟩
   ·exact ⟨_, by rw [hpf, if_neg hc]; rfl, rfl, rfl⟩
  ·clear hcal
   repeat' (first | refine wkt ?_ | refine wk ?_ | exact wkc | intro hc | refine wk2 ?_ ?_ | fail)
   refine ⟨rfl, ?_⟩
   by_cases hm : x.name ∈ Ch.vis (.c1 i a)
   ·rw [if_pos hm] at ho
    repeat' (first | refine wkt ?_ | refine Go.TL.TR.regionS (envF := _) (g := True) [(.ref 0 0, false), (.ref 4 0, false), (.cp [T.n x.kind, T.n x.op, T.n x.t, T.n x.v, .s x.name, .sl 6 (x.args.map exT)] 4, false), (.s x.name, false), (.b true, true), (.tup [], true)] hmix (by dsimp only [List.map]; decide +kernel) ?_ rfl (by decide) ?_ | refine wk ?_ | exact wkc | intro hc | refine wk2 ?_ ?_ | exact And.intro (And.intro rfl rfl) trivial | refine And.intro (fun env => ?_) ?_ | exact trivial | exact absurd hm hc | exact absurd hc hm | exact (fun hf => hf.elim) | refine wms ?_ | (apply TO.sees hk; exact rfl; exact rfl; exact rfl; assumption) | fail)
    all_goals exact ⟨by rw [hpf, if_pos (by rw [ho]; clear hpf hs; grind)], by simp only [hla]; rfl, rfl⟩
   ·rw [if_neg hm] at ho
    repeat' (first | refine wkt ?_ | refine Go.TL.TR.regionS (envF := _) (g := False) [(.ref 0 0, false), (.ref 4 0, false), (.cp [T.n x.kind, T.n x.op, T.n x.t, T.n x.v, .s x.name, .sl 6 (x.args.map exT)] 4, false), (.s x.name, false), (.b false, true), (.tup [], true)] hmix (by dsimp only [List.map]; decide +kernel) ?_ rfl (by decide) ?_ | refine wk ?_ | exact wkc | intro hc | refine wk2 ?_ ?_ | exact And.intro (And.intro rfl rfl) trivial | refine And.intro (fun env => ?_) ?_ | exact trivial | exact absurd hm hc | exact absurd hc hm | exact (fun hf => hf.elim) | refine wms ?_ | (apply TO.sees hk; exact rfl; exact rfl; exact rfl; assumption) | fail)
    all_goals first
     | exact ⟨by rw [hpf, if_pos (by rw [ho]; clear hpf hs; grind)], by simp only [hla]; rfl, rfl⟩
     | (have h6 : z1 = 6 := by rw [ho]; clear hpf hs; grind
        rw [h6, if_neg (by decide)] at hpf
        exact ⟨_, by rw [hpf]; rfl, rfl, rfl⟩)
 ·rw [flat_eq, scan_pan]
  by_cases z1 : oneS p seen node (Ch.vis (.c1 i a)) left e = 0
  ·rw [if_pos z1] at hz ⊢
   by_cases z2 : firstE (oneS p seen node (Ch.vis (.c1 i a)) 1) (flats e.args) = 0
   ·rw [if_pos z2]
    simp only []
    rw [z2] at hz
    repeat' (first | refine wkt ?_ | refine wk ?_ | exact wkc | intro hc | refine wk2 ?_ ?_ | fail)
    exact retSN hz rfl rfl rfl rfl
   ·rw [if_neg z2]
    simp only []
    (repeat' (first | refine LoopK.panic ?_ | refine wk ?_ | fail))
    exact retB z2 hz.symm rfl
  ·rw [if_neg z1] at hz ⊢
   simp only []
   (repeat' (first | refine LoopK.panic ?_ | refine wk ?_ | fail))
   exact retB z1 hz.symm rfl
set_option maxHeartbeats 2000000 in
theorem expr_c2 (p : Prog) (hp : SmallC p) (n q : Int) (seen : List (Int × Str × Int)) (hse : SeenOk seen) (hsn : SeenN p seen) (node left : Int) (i : List Str) (a : Lv) (b : Lv) (hk : (Ch.c2 i a b).ok) (e : Ex) (hw : wEx e ≤ 1000000000) (hex : ∀ x ∈ flat e, ExOk x) :
  SS 125 [.i node, .ref 9 0, .t (.ag (exC e)), .i left] p n q seen (.c2 i a b) (.c2 i a b) (exprS p seen node (Ch.vis (.c2 i a b)) left e) := by
 have hs := Each_sound e
 rw [exT_eq] at hs
 have hc0 : exC e = [T.n e.kind, T.n e.op, T.n e.t, T.n e.v, .s e.name, .sl 6 (e.args.map exT)] := rfl
 rw [hc0] at hs ⊢
 have hz : exprS p seen node (Ch.vis (.c2 i a b)) left e = exprS p seen node (Ch.vis (.c2 i a b)) left e := rfl
 conv at hz => rhs; unfold exprS orE
 generalize exprS p seen node (Ch.vis (.c2 i a b)) left e = z at hz ⊢
 refine Sound.err rfl (fun _ => rfl) ?_
 refine Sound.of tabOk Tryz.func125 (by kernel_rfl) rfl rfl ?_
 refine TR.dead ?_
 repeat' (first | refine wkt ?_ | refine wk ?_ | exact wkc | intro hc | refine wk2 ?_ ?_ | refine wv hs ?_ | fail)
 refine TR.rangeEach e (fun pre => (full p n q seen (.c2 i a b)) ++ [.cells [.ref 0 0], .cells [.i node], .cells [.ref 9 0], .cells [.t (T.n e.kind), .t (T.n e.op), .t (T.n e.t), .t (T.n e.v), .t (.s e.name), .t (.sl 6 (e.args.map exT))], .cells [.i (lf left pre)]]) (panF (oneS p seen node (Ch.vis (.c2 i a b))) left n q (fun u => .dead :: .dead :: ((Ch.heap (.c2 i a b)) ++ [.cells [.ref 0 0], .cells [.i node], .cells [.ref 9 0], .cells [.t (T.n e.kind), .t (T.n e.op), .t (T.n e.t), .t (T.n e.v), .t (.s e.name), .t (.sl 6 (e.args.map exT))], .cells [.i u]]))) rfl hw ?_ rfl rfl (fun _ => ⟨rfl, rfl⟩) (fun pre x => ?_) (fun fn pre x post hsp => ?_) (fun fn => ?_)
 ·rw [show lf left [] = left from rfl]; rfl
 ·unfold panF
  split <;> rename_i hq <;> split at hq <;> cases hq
  ·trivial
  ·exact ⟨rfl, rfl, rfl⟩
 ·have hxk := hex x (by rw [hsp]; simp)
  have hno := hxk.2
  have hcx : exC x = [T.n x.kind, T.n x.op, T.n x.t, T.n x.v, .s x.name, .sl 6 (x.args.map exT)] := rfl
  have hcal := fun hv => callM_sound p hp.nodes hp.each n q seen hse hsn node (lf left pre) x hv hno
  have ho : oneS p seen node (Ch.vis (.c2 i a b)) (lf left pre) x = oneS p seen node (Ch.vis (.c2 i a b)) (lf left pre) x := rfl
  conv at ho => rhs; unfold oneS
  have hpf : panF (oneS p seen node (Ch.vis (.c2 i a b))) left n q (fun u => .dead :: .dead :: ((Ch.heap (.c2 i a b)) ++ [.cells [.ref 0 0], .cells [.i node], .cells [.ref 9 0], .cells [.t (T.n e.kind), .t (T.n e.op), .t (T.n e.t), .t (T.n e.v), .t (.s e.name), .t (.sl 6 (e.args.map exT))], .cells [.i u]])) pre x = if oneS p seen node (Ch.vis (.c2 i a b)) (lf left pre) x = 0 then .go else .panic (failS n q (oneS p seen node (Ch.vis (.c2 i a b)) (lf left pre) x)) (.dead :: .dead :: ((Ch.heap (.c2 i a b)) ++ [.cells [.ref 0 0], .cells [.i node], .cells [.ref 9 0], .cells [.t (T.n e.kind), .t (T.n e.op), .t (T.n e.t), .t (T.n e.v), .t (.s e.name), .t (.sl 6 (e.args.map exT))], .cells [.i (lf left pre)]])) := rfl
  have hla := lf_add left pre x
  generalize panF (oneS p seen node (Ch.vis (.c2 i a b))) left n q (fun u => .dead :: .dead :: ((Ch.heap (.c2 i a b)) ++ [.cells [.ref 0 0], .cells [.i node], .cells [.ref 9 0], .cells [.t (T.n e.kind), .t (T.n e.op), .t (T.n e.t), .t (T.n e.v), .t (.s e.name), .t (.sl 6 (e.args.map exT))], .cells [.i u]])) = pf at *
  generalize oneS p seen node (Ch.vis (.c2 i a b)) (lf left pre) x = z1 at *
  generalize lf left pre = lv at *
  rw [hcx] at hcal ⊢
  have hq : x.kind.1 = 10 ∨ x.kind.1 ≠ 10 := by omega
  rcases hq with hq | hq
  ·have hcal := hcal (hxk.1 hq)
   rw [if_neg (by omega), if_pos hq] at ho
   rw [← ho] at hcal
   repeat' (first | refine wkt ?_ | refine wk ?_ | exact wkc | intro hc | refine wk2 ?_ ?_ | fail)
   refine ⟨rfl, ?_⟩
   repeat' (first | refine wkt ?_ | refine wka ?_ | refine wkD ?_ | refine wk ?_ | exact wkc | intro hc | refine wk2 ?_ ?_ | (apply TO.setGet; exact rfl; exact rfl; exact rfl; exact rfl; assumption; assumption) | (apply TO.nilGet; exact rfl; exact rfl; exact rfl; assumption) | (apply TO.setPut; exact rfl; exact rfl; exact rfl; exact rfl; assumption; assumption; exact rfl) | refine wms ?_ | (apply TO.sees hk; exact rfl; exact rfl; (first | exact rfl | exact Ch.tk _ _ _ _ _); assumption) | (apply TO.defined hk; exact rfl; exact rfl; (first | exact rfl | exact Ch.tk _ _ _ _ _); assumption) | refine we hcal ?_ ?_ | fail)
   ·exact ⟨by rw [hpf, if_pos hc], by simp only [hla]; rfl, rfl⟩
   ·exact ⟨_, by rw [hpf, if_neg hc]; rfl, rfl, rfl⟩
  ·clear hcal
   repeat' (first | refine wkt ?_ | refine wk ?_ | exact wkc | intro hc | refine wk2 ?_ ?_ | fail)
   refine ⟨rfl, ?_⟩
   by_cases hm : x.name ∈ Ch.vis (.c2 i a b)
   ·rw [if_pos hm] at ho
    repeat' (first | refine wkt ?_ | refine Go.TL.TR.regionS (envF := _) (g := True) [(.ref 0 0, false), (.ref 9 0, false), (.cp [T.n x.kind, T.n x.op, T.n x.t, T.n x.v, .s x.name, .sl 6 (x.args.map exT)] 4, false), (.s x.name, false), (.b true, true), (.tup [], true)] hmix (by dsimp only [List.map]; decide +kernel) ?_ rfl (by decide) ?_ | refine wk ?_ | exact wkc | intro hc | refine wk2 ?_ ?_ | exact And.intro (And.intro rfl rfl) trivial | refine And.intro (fun env => ?_) ?_ | exact trivial | exact absurd hm hc | exact absurd hc hm | exact (fun hf => hf.elim) | refine wms ?_ | (apply TO.sees hk; exact rfl; exact rfl; exact rfl; assumption) | fail)
    all_goals exact ⟨by rw [hpf, if_pos (by rw [ho]; clear hpf hs; grind)], by simp only [hla]; rfl, rfl⟩
   ·rw [if_neg hm] at ho
    repeat' (first | refine wkt ?_ | refine Go.TL.TR.regionS (envF := _) (g := False) [(.ref 0 0, false), (.ref 9 0, false), (.cp [T.n x.kind, T.n x.op, T.n x.t, T.n x.v, .s x.name, .sl 6 (x.args.map exT)] 4, false), (.s x.name, false), (.b false, true), (.tup [], true)] hmix (by dsimp only [List.map]; decide +kernel) ?_ rfl (by decide) ?_ | refine wk ?_ | exact wkc | intro hc | refine wk2 ?_ ?_ | exact And.intro (And.intro rfl rfl) trivial | refine And.intro (fun env => ?_) ?_ | exact trivial | exact absurd hm hc | exact absurd hc hm | exact (fun hf => hf.elim) | refine wms ?_ | (apply TO.sees hk; exact rfl; exact rfl; exact rfl; assumption) | fail)
    all_goals first
     | exact ⟨by rw [hpf, if_pos (by rw [ho]; clear hpf hs; grind)], by simp only [hla]; rfl, rfl⟩
     | (have h6 : z1 = 6 := by rw [ho]; clear hpf hs; grind
        rw [h6, if_neg (by decide)] at hpf
        exact ⟨_, by rw [hpf]; rfl, rfl, rfl⟩)
 ·rw [flat_eq, scan_pan]
  by_cases z1 : oneS p seen node (Ch.vis (.c2 i a b)) left e = 0
  ·rw [if_pos z1] at hz ⊢
   by_cases z2 : firstE (oneS p seen node (Ch.vis (.c2 i a b)) 1) (flats e.args) = 0
   ·rw [if_pos z2]
    simp only []
    rw [z2] at hz
    repeat' (first | refine wkt ?_ | refine wk ?_ | exact wkc | intro hc | refine wk2 ?_ ?_ | fail)
    exact retSN hz rfl rfl rfl rfl
   ·rw [if_neg z2]
    simp only []
    (repeat' (first | refine LoopK.panic ?_ | refine wk ?_ | fail))
    exact retB z2 hz.symm rfl
  ·rw [if_neg z1] at hz ⊢
   simp only []
   (repeat' (first | refine LoopK.panic ?_ | refine wk ?_ | fail))
   exact retB z1 hz.symm rfl
end Go.Proofs.YtonjiabmcbdhdaaGreat
