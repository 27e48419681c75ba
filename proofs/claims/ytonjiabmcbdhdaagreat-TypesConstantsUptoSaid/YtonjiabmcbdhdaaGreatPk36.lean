import Derived.Test.YtonjiabmcbdhdaaGreatPk35
set_option linter.unusedSimpArgs false
set_option linter.unusedVariables false
namespace Go.Proofs.YtonjiabmcbdhdaaGreat
open Go Go.TL
attribute [local irreducible] TR TO Then InBlock RetK Sound LoopK Kf GG ThenL
theorem dup_append : ∀ (a b pre : List Str), dupE pre (a ++ b) = if dupE pre a = 0 then dupE (pre ++ a) b else dupE pre a
 | [], b, pre => by simp [dupE]
 | s :: a, b, pre => by
   simp only [List.cons_append, dupE]
   by_cases h : s ∈ pre
   ·simp [h]
   ·simp only [h, if_false]
    rw [dup_append a b (pre ++ [s])]
    simp
theorem dup_next {l : List Str} {k : Nat} (hk : k < l.length) (h : dupE [] (l.take k) = 0) (hn : l[k] ∉ l.take k) : dupE [] (l.take (k + 1)) = 0 := by
 rw [List.take_succ_eq_append_getElem hk, dup_append, if_pos h, List.nil_append, dupE, if_neg hn]; rfl
theorem dup_bad {l : List Str} {k : Nat} (hk : k < l.length) (h : dupE [] (l.take k) = 0) (hn : l[k] ∈ l.take k) : dupE [] l = 7 := by
 conv => lhs; rw [← List.take_append_drop k l]
 rw [dup_append, if_pos h, List.drop_eq_getElem_cons hk, List.nil_append, dupE, if_pos hn]
theorem firstOf_take {l : List (List Str × Int)} {k : Nat} (h : 0 < k) : firstOf (l.take k) = firstOf l := by
 cases l with
 | nil => simp [firstOf]
 | cons x l =>
   obtain ⟨k, rfl⟩ : ∃ j, k = j + 1 := ⟨k - 1, by omega⟩
   simp [firstOf]
theorem same_take {l : List (List Str × Int)} {k : Nat} (hk : k < l.length) : sameAll (l.take (k + 1)) = (sameAll (l.take k) && alikeB l[k].1 (firstOf (l.take (k + 1)))) := by
 unfold sameAll
 rw [firstOf_take (Nat.succ_pos k), List.take_succ_eq_append_getElem hk, List.all_append]
 cases k with
 | zero => simp
 | succ k => rw [firstOf_take (Nat.succ_pos k)]; simp
theorem states_any (l : List Sta) (x : Sta) : (l.any fun y => y.name == x.name) = decide (x.name ∈ l.map Sta.name) := by
 rw [Bool.eq_iff_iff]
 simp only [List.any_eq_true, decide_eq_true_eq, List.mem_map, beq_iff_eq]
set_option maxHeartbeats 1000000 in
theorem au_c1 (p : Prog) (n q : Int) (seen : List (Int × Str × Int)) (node : Int) (i : List Str) (a : Lv) (hk0 : (Ch.c1 i a).ok) (hdl : a.defs.length ≤ 1000000000) (F : List Str → List Str → Lv → Auto → Lv × Int) (au : Auto) (hw : (autoT au).w ≤ 1000000000)
  (hst : ∀ s ∈ au.states, Sound Tryz.prog 128 [.ref 0 0, .i node, .ref 4 0, .t (.ag (staC s))] (full p n q seen (.c1 i a)) (Err (stS p seen node F a.own (i ++ a.done) s).2 (.t (.sl 1 ((stS p seen node F a.own (i ++ a.done) s).1.map T.s))) (failS n q (stS p seen node F a.own (i ++ a.done) s).2) (full p n q seen (.c1 i a))))
  (hgood : ∀ s ∈ au.states, (stS p seen node F a.own (i ++ a.done) s).2 = 0 → (stS p seen node F a.own (i ++ a.done) s).1.length ≤ 1000000000 ∧ ∀ x ∈ (stS p seen node F a.own (i ++ a.done) s).1, x.length ≤ 1000000000) :
  SS 80 [.i node, .ref 4 0, .t (.ag (autoC au))] p n q seen (.c1 i a) (.c1 i ⟨a.own, (firstOf (au.states.map (stS p seen node F a.own (i ++ a.done)))).foldl ins a.done, a.defs ++ firstOf (au.states.map (stS p seen node F a.own (i ++ a.done)))⟩)
   (orE (dupE [] (au.states.map Sta.name)) (orE (firstE Prod.snd (au.states.map (stS p seen node F a.own (i ++ a.done)))) (if sameAll (au.states.map (stS p seen node F a.own (i ++ a.done))) = true then 0 else 8))) := by
 have hwa := w_auto au
 have hlb : au.states.length ≤ 1000000000 := by have := w_lenM staT 6 au.states; omega
 have hset := fun {x : Lv} (hx : x.ok) => Ch.ok_set hk0 hx
 have ht0 := Ch.ok_top hk0
 simp only [Ch.top, Ch.set] at hset ht0
 clear hk0 hwa hw
 unfold autoC
 generalize au.states = l at *
 have hml : (l.map staT).length = l.length := List.length_map _
 have hrl : (l.map (stS p seen node F a.own (i ++ a.done))).length = l.length := List.length_map _
 have hnl : (l.map Sta.name).length = l.length := List.length_map _
 have hz : orE (dupE [] (l.map Sta.name)) (orE (firstE Prod.snd (l.map (stS p seen node F a.own (i ++ a.done)))) (if sameAll (l.map (stS p seen node F a.own (i ++ a.done))) = true then 0 else 8)) = orE (dupE [] (l.map Sta.name)) (orE (firstE Prod.snd (l.map (stS p seen node F a.own (i ++ a.done)))) (if sameAll (l.map (stS p seen node F a.own (i ++ a.done))) = true then 0 else 8)) := rfl
 conv at hz => rhs; simp only [orE]
 generalize hzz : orE (dupE [] (l.map Sta.name)) (orE (firstE Prod.snd (l.map (stS p seen node F a.own (i ++ a.done)))) (if sameAll (l.map (stS p seen node F a.own (i ++ a.done))) = true then 0 else 8)) = z at hz ⊢
 clear hzz
 refine Sound.err rfl (fun _ => rfl) ?_
 refine Sound.of tabOk Tryz.func80 (by kernel_rfl) rfl rfl ?_
 refine TR.dead ?_
 repeat' (first | refine wkt ?_ | refine wk ?_ | exact wkc | intro hc | refine wk2 ?_ ?_ | fail)
 refine TR.loopN l.length (fun k => dupE [] ((l.map Sta.name).take k) = 0) (fun k => [(0, .ref 0 0), (1, .i node), (2, .ref 4 0), (7, .cp [.sl 6 (l.map staT)] 0), (18, .t (.sl 6 (l.map staT))), (19, .i (l.map staT).length), (20, .i k)]) (fun _ => full p n q seen (.c1 i a)) rfl (fun k hlt ha => ?_) (fun ha => ?_)
 ·have hx := at_sta hlt
  have hkn : k < (l.map Sta.name).length := by omega
  have hcon := conState_sound 127 [.cp (staC l[k]) 0] rfl (fun y => y.name == l[k].name) (l.take k) (by simp; omega) (fun y => staNamed_sound y l[k])
  rw [states_any, List.map_take, List.map_take] at hcon
  have g1 := dup_next hkn ha
  have g2 := dup_bad hkn ha
  rw [List.getElem_map] at g1 g2
  generalize l[k] = x at *
  unfold staC at hx hcon
  clear hst hgood
  by_cases hm : x.name ∈ (l.map Sta.name).take k
  ·rw [decide_eq_true hm] at hcon
   repeat' (first | refine wkt ?_ | refine wka ?_ | refine wkD ?_ | refine wk ?_ | exact wkc | intro hc | refine wk2 ?_ ?_ | (apply TO.setGet; exact rfl; exact rfl; exact rfl; exact rfl; assumption; assumption) | (apply TO.nilGet; exact rfl; exact rfl; exact rfl; assumption) | (apply TO.setPut; exact rfl; exact rfl; exact rfl; exact rfl; assumption; assumption; exact rfl) | refine wms ?_ | (apply TO.sees hk; exact rfl; exact rfl; (first | exact rfl | exact Ch.tk _ _ _ _ _); assumption) | (apply TO.defined hk; exact rfl; exact rfl; (first | exact rfl | exact Ch.tk _ _ _ _ _); assumption) | (apply TO.slice_hi tabOk; exact rfl; exact rfl; exact rfl; exact rfl; exact rfl; omega) | (apply TO.callV hcon; exact rfl; exact rfl; exact rfl; exact Les.refl _; exact rfl; exact rfl) | fail)
   (repeat' (first | refine LoopK.panic ?_ | refine wk ?_ | fail)); apply retS
   ·decide
   ·rw [hz, g2 hm]; rfl
   ·exact Nat.le_of_ble_eq_true rfl
  ·rw [decide_eq_false hm] at hcon
   repeat' (first | refine wkt ?_ | refine wka ?_ | refine wkD ?_ | refine wk ?_ | exact wkc | intro hc | refine wk2 ?_ ?_ | (apply TO.setGet; exact rfl; exact rfl; exact rfl; exact rfl; assumption; assumption) | (apply TO.nilGet; exact rfl; exact rfl; exact rfl; assumption) | (apply TO.setPut; exact rfl; exact rfl; exact rfl; exact rfl; assumption; assumption; exact rfl) | refine wms ?_ | (apply TO.sees hk; exact rfl; exact rfl; (first | exact rfl | exact Ch.tk _ _ _ _ _); assumption) | (apply TO.defined hk; exact rfl; exact rfl; (first | exact rfl | exact Ch.tk _ _ _ _ _); assumption) | (apply TO.slice_hi tabOk; exact rfl; exact rfl; exact rfl; exact rfl; exact rfl; omega) | (apply TO.callV hcon; exact rfl; exact rfl; exact rfl; exact Les.refl _; exact rfl; exact rfl) | fail)
   exact LoopK.nextN hlt (g1 hm)
 have ed : dupE [] (l.map Sta.name) = 0 := by rw [← hnl, List.take_length] at ha; exact ha
 rw [ed] at hz
 refine wk ?_
 repeat' (first | refine wkt ?_ | refine wk ?_ | exact wkc | intro hc | refine wk2 ?_ ?_ | fail)
 refine TR.less 10 (v' := .t (.sl 1 [])) rfl (Le.nil 1) ?_
 have hgd : ∀ k (hk : k < l.length) r, (l.map (stS p seen node F a.own (i ++ a.done)))[k]? = some r → stS p seen node F a.own (i ++ a.done) l[k] = r := fun k hk r hr => by
  rw [List.getElem?_map, List.getElem?_eq_getElem hk] at hr
  exact Option.some.inj hr
 have hf1 : firstE Prod.snd (l.map (stS p seen node F a.own (i ++ a.done))) = 0 → (firstOf (l.map (stS p seen node F a.own (i ++ a.done)))).length ≤ 1000000000 ∧ ∀ x ∈ firstOf (l.map (stS p seen node F a.own (i ++ a.done))), x.length ≤ 1000000000 := by
  intro h0
  cases l with
  | nil => exact ⟨by simp [firstOf], by simp [firstOf]⟩
  | cons s r =>
    have : (stS p seen node F a.own (i ++ a.done) s).2 = 0 := by
     rw [List.map_cons, firstE] at h0
     split at h0
     ·assumption
     ·exact h0
    exact hgood s (by simp) this
 have hrg : ∀ k (hk : k < l.length), ((stS p seen node F a.own (i ++ a.done) l[k])).2 = 0 → (stS p seen node F a.own (i ++ a.done) l[k]).1.length ≤ 1000000000 := fun k hk h0 => (hgood _ (List.getElem_mem hk) h0).1
 have hss : ∀ k (hk : k < l.length), Sound Tryz.prog 128 [.ref 0 0, .i node, .ref 4 0, .t (.ag (staC l[k]))] (full p n q seen (.c1 i a)) (Err (stS p seen node F a.own (i ++ a.done) l[k]).2 (.t (.sl 1 ((stS p seen node F a.own (i ++ a.done) l[k]).1.map T.s))) (failS n q (stS p seen node F a.own (i ++ a.done) l[k]).2) (full p n q seen (.c1 i a))) := fun k hk => hst _ (List.getElem_mem hk)
 have hfl0 : ∀ k, 0 < k → firstE Prod.snd ((l.map (stS p seen node F a.own (i ++ a.done))).take k) = 0 → (firstOf ((l.map (stS p seen node F a.own (i ++ a.done))).take k)).length ≤ 1000000000 := by
  intro k hk h0
  cases l with
  | nil => simp [firstOf]
  | cons s r =>
    obtain ⟨k, rfl⟩ : ∃ j, k = j + 1 := ⟨k - 1, by omega⟩
    have : (stS p seen node F a.own (i ++ a.done) s).2 = 0 := by
     rw [List.map_cons, List.take_succ_cons, firstE] at h0
     split at h0
     ·assumption
     ·exact h0
    exact (hgood s (by simp) this).1
 clear hst hgood
 generalize hrs : l.map (stS p seen node F a.own (i ++ a.done)) = rs at *
 refine TR.loopN l.length (fun k => firstE Prod.snd (rs.take k) = 0) (fun k => [(0, .ref 0 0), (1, .i node), (2, .ref 4 0), (7, .cp [.sl 6 (l.map staT)] 0), (10, .t (.sl 1 ((firstOf (rs.take k)).map T.s))), (11, .b (sameAll (rs.take k))), (36, .t (.sl 6 (l.map staT))), (37, .i (l.map staT).length), (38, .i k)]) (fun _ => full p n q seen (.c1 i a)) rfl (fun k hlt ha => ?_) (fun ha => ?_)
 ·have hx := at_sta hlt
  have hkr : k < rs.length := by omega
  have g1 := firstE_at (f := Prod.snd) hkr ha
  have g2 := firstE_next (f := Prod.snd) hkr ha
  have g3 := same_take hkr
  have hs := hss k hlt
  have hg := hrg k hlt
  rw [hgd k hlt _ (List.getElem?_eq_getElem hkr)] at hs hg
  have hfk := hfl0 k
  have hfk1 : k = 0 → firstOf (rs.take (k + 1)) = rs[k].1 := fun h0 => by
   subst h0
   cases rs with
   | nil => simp at hkr
   | cons r rr => rfl
  have hfk2 : k ≠ 0 → firstOf (rs.take (k + 1)) = firstOf (rs.take k) := fun h0 => by rw [firstOf_take (Nat.succ_pos k), firstOf_take (by omega)]
  clear hss hrg hgd hfl0
  generalize rs[k] = r at *
  generalize l[k] = x at *
  generalize firstOf (rs.take k) = fs at *
  generalize hfs1 : firstOf (rs.take (k + 1)) = fs1 at *
  obtain ⟨r1, r2⟩ := r
  simp only at hs hg g1 g2 g3 hfk1
  by_cases hr2 : r2 = 0
  ·subst hr2
   have hrl1 := hg rfl
   have hal := alike_sound r1 fs1 hrl1 (by
    by_cases h0 : k = 0
    ·rw [hfk1 h0]; exact hrl1
    ·rw [hfk2 h0]; exact hfk (by omega) ha)
   unfold staC at hx hs
   generalize sameAll (rs.take k) = sm at *
   by_cases h0 : k = 0
   ·have hf := hfk1 h0
    subst hf
    clear hfk1 hfk2
    cases sm
    all_goals
     repeat' (first | refine wkt ?_ | refine wka ?_ | refine wkD ?_ | refine wk ?_ | exact wkc | intro hc | refine wk2 ?_ ?_ | (apply TO.setGet; exact rfl; exact rfl; exact rfl; exact rfl; assumption; assumption) | (apply TO.nilGet; exact rfl; exact rfl; exact rfl; assumption) | (apply TO.setPut; exact rfl; exact rfl; exact rfl; exact rfl; assumption; assumption; exact rfl) | refine wms ?_ | (apply TO.sees hk; exact rfl; exact rfl; (first | exact rfl | exact Ch.tk _ _ _ _ _); assumption) | (apply TO.defined hk; exact rfl; exact rfl; (first | exact rfl | exact Ch.tk _ _ _ _ _); assumption) | refine wss hs ?_ ?_ | refine wb hal ?_ ?_ | fail)
    all_goals first
     | (exfalso; omega)
     | (refine LoopK.nextN hlt (g2 rfl) ?_
        simp only [Bool.false_and, Bool.true_and] at g3
        first | rw [hc] at g3 | skip
        simp only [hfs1, g3]
        repeat' (first | exact trivial | refine And.intro rfl ?_ | fail))
   ·have hf := hfk2 h0
    subst hf
    clear hfk1 hfk2
    cases sm
    all_goals
     repeat' (first | refine wkt ?_ | refine wka ?_ | refine wkD ?_ | refine wk ?_ | exact wkc | intro hc | refine wk2 ?_ ?_ | (apply TO.setGet; exact rfl; exact rfl; exact rfl; exact rfl; assumption; assumption) | (apply TO.nilGet; exact rfl; exact rfl; exact rfl; assumption) | (apply TO.setPut; exact rfl; exact rfl; exact rfl; exact rfl; assumption; assumption; exact rfl) | refine wms ?_ | (apply TO.sees hk; exact rfl; exact rfl; (first | exact rfl | exact Ch.tk _ _ _ _ _); assumption) | (apply TO.defined hk; exact rfl; exact rfl; (first | exact rfl | exact Ch.tk _ _ _ _ _); assumption) | refine wss hs ?_ ?_ | refine wb hal ?_ ?_ | fail)
    all_goals first
     | (exfalso; omega)
     | (refine LoopK.nextN hlt (g2 rfl) ?_
        simp only [Bool.false_and, Bool.true_and] at g3
        first | rw [hc] at g3 | skip
        simp only [hfs1, g3]
        repeat' (first | exact trivial | refine And.intro rfl ?_ | fail))
  ·unfold staC at hx hs
   repeat' (first | refine wkt ?_ | refine wka ?_ | refine wkD ?_ | refine wk ?_ | exact wkc | intro hc | refine wk2 ?_ ?_ | (apply TO.setGet; exact rfl; exact rfl; exact rfl; exact rfl; assumption; assumption) | (apply TO.nilGet; exact rfl; exact rfl; exact rfl; assumption) | (apply TO.setPut; exact rfl; exact rfl; exact rfl; exact rfl; assumption; assumption; exact rfl) | refine wms ?_ | (apply TO.sees hk; exact rfl; exact rfl; (first | exact rfl | exact Ch.tk _ _ _ _ _); assumption) | (apply TO.defined hk; exact rfl; exact rfl; (first | exact rfl | exact Ch.tk _ _ _ _ _); assumption) | refine wss hs ?_ ?_ | fail)
   all_goals first
    | exact absurd hc hr2
    | ((repeat' (first | refine LoopK.panic ?_ | refine wk ?_ | fail)); apply retS; (first | assumption | decide); (clear hs hx; first | grind | grind [orE]); (first | exact Nat.le_of_ble_eq_true rfl | exact Nat.le_refl _ | (simp [Ch.len]; done) | (simp [Ch.len]; omega)))
 have e1 : firstE Prod.snd rs = 0 := by rw [← hrl, List.take_length] at ha; exact ha
 rw [← hrl, List.take_length]
 rw [e1] at hz
 obtain ⟨hfl, hfs⟩ := hf1 e1
 clear hss hrg hgd hfl0 hf1
 generalize firstOf rs = fs at *
 generalize sameAll rs = sm at *
 clear hrs
 cases sm
 ·repeat' (first | refine wkt ?_ | refine wka ?_ | refine wkD ?_ | refine wk ?_ | exact wkc | intro hc | refine wk2 ?_ ?_ | (apply TO.setGet; exact rfl; exact rfl; exact rfl; exact rfl; assumption; assumption) | (apply TO.nilGet; exact rfl; exact rfl; exact rfl; assumption) | (apply TO.setPut; exact rfl; exact rfl; exact rfl; exact rfl; assumption; assumption; exact rfl) | refine wms ?_ | (apply TO.sees hk; exact rfl; exact rfl; (first | exact rfl | exact Ch.tk _ _ _ _ _); assumption) | (apply TO.defined hk; exact rfl; exact rfl; (first | exact rfl | exact Ch.tk _ _ _ _ _); assumption) | fail | fail)
  all_goals ((repeat' (first | refine LoopK.panic ?_ | refine wk ?_ | fail)); apply retS; (first | assumption | decide); (clear hml; first | grind | grind [orE]); (first | exact Nat.le_of_ble_eq_true rfl | exact Nat.le_refl _ | (simp [Ch.len]; done) | (simp [Ch.len]; omega)))
 ·rw [if_pos rfl] at hz
  repeat' (first | refine wkt ?_ | refine wka ?_ | refine wkD ?_ | refine wk ?_ | exact wkc | intro hc | refine wk2 ?_ ?_ | (apply TO.setGet; exact rfl; exact rfl; exact rfl; exact rfl; assumption; assumption) | (apply TO.nilGet; exact rfl; exact rfl; exact rfl; assumption) | (apply TO.setPut; exact rfl; exact rfl; exact rfl; exact rfl; assumption; assumption; exact rfl) | refine wms ?_ | (apply TO.sees hk; exact rfl; exact rfl; (first | exact rfl | exact Ch.tk _ _ _ _ _); assumption) | (apply TO.defined hk; exact rfl; exact rfl; (first | exact rfl | exact Ch.tk _ _ _ _ _); assumption) | fail | fail)
  have hml2 : (fs.map T.s).length = fs.length := List.length_map _
  have hins : ∀ (l : List Str) (d : List Str), SetOk d → (∀ x ∈ l, x.length ≤ 1000000000) → SetOk (l.foldl ins d) := by
   intro l
   induction l with
   | nil => intro d hd _; exact hd
   | cons y l ih => intro d hd hl; exact ih _ (hd.ins (hl y (by simp))) (fun x hx => hl x (by simp [hx]))
  refine TR.loopN fs.length (fun _ => True) (fun k => [(0, .ref 0 0), (1, .i node), (2, .ref 4 0), (7, .cp [.sl 6 (l.map staT)] 0), (10, .t (.sl 1 (fs.map T.s))), (61, .t (.sl 1 (fs.map T.s))), (62, .i (fs.map T.s).length), (63, .i k)]) (fun k => full p n q seen (.c1 i ⟨a.own, (fs.take k).foldl ins a.done, a.defs⟩)) trivial (fun k hlt _ => ?_) (fun _ => ?_)
  ·have hx := at_s hlt
   have hno := hfs _ (List.getElem_mem hlt)
   have hdn := hins (fs.take k) a.done ht0.done (fun x hx => hfs x (List.mem_of_mem_take hx))
   have g2 : (fs.take (k + 1)).foldl ins a.done = ins ((fs.take k).foldl ins a.done) fs[k] := by rw [List.take_succ_eq_append_getElem hlt, List.foldl_append]; rfl
   generalize (fs.take k).foldl ins a.done = dn at *
   generalize fs[k] = x at *
   repeat' (first | refine wkt ?_ | refine wka ?_ | refine wkD ?_ | refine wk ?_ | exact wkc | intro hc | refine wk2 ?_ ?_ | (apply TO.setGet; exact rfl; exact rfl; exact rfl; exact rfl; assumption; assumption) | (apply TO.nilGet; exact rfl; exact rfl; exact rfl; assumption) | (apply TO.setPut; exact rfl; exact rfl; exact rfl; exact rfl; assumption; assumption; exact rfl) | refine wms ?_ | (apply TO.sees hk; exact rfl; exact rfl; (first | exact rfl | exact Ch.tk _ _ _ _ _); assumption) | (apply TO.defined hk; exact rfl; exact rfl; (first | exact rfl | exact Ch.tk _ _ _ _ _); assumption) | fail | fail)
   refine LoopK.nextN hlt trivial ?_ (by rw [g2]; rfl)
   repeat' (first | exact trivial | refine And.intro rfl ?_ | fail)
  ·rw [List.take_length]
   have hl1 : (a.defs.map T.s).length = a.defs.length := List.length_map _
   have hma : (a.defs ++ fs).map T.s = a.defs.map T.s ++ fs.map T.s := List.map_append
   generalize fs.foldl ins a.done = dn at *
   have hone : (fs.map T.s).all T.one = true := by simp [T.one]
   repeat' (first | refine wkt ?_ | refine wka ?_ | refine wkD ?_ | refine wk ?_ | exact wkc | intro hc | refine wk2 ?_ ?_ | (apply TO.setGet; exact rfl; exact rfl; exact rfl; exact rfl; assumption; assumption) | (apply TO.nilGet; exact rfl; exact rfl; exact rfl; assumption) | (apply TO.setPut; exact rfl; exact rfl; exact rfl; exact rfl; assumption; assumption; exact rfl) | refine wms ?_ | (apply TO.sees hk; exact rfl; exact rfl; (first | exact rfl | exact Ch.tk _ _ _ _ _); assumption) | (apply TO.defined hk; exact rfl; exact rfl; (first | exact rfl | exact Ch.tk _ _ _ _ _); assumption) | (apply TO.append_row tabOk; exact rfl; exact rfl; exact rfl; exact rfl; exact rfl; exact rfl; exact rfl; exact rfl; exact rfl; (exact Nat.beq_refl _); exact rfl; exact rfl; exact hone; exact rfl; (show (a.defs.map T.s).length + (fs.map T.s).length ≤ _; omega); exact rfl) | fail)
   refine retSN (H1 := full p n q seen (.c1 i ⟨a.own, dn, a.defs ++ fs⟩)) hz rfl rfl ?_ rfl
   show _ = full p n q seen (.c1 i ⟨a.own, dn, a.defs ++ fs⟩)
   simp only [full, Ch.heap, nmB, rowB, hma]
   rfl
set_option maxHeartbeats 1000000 in
theorem au_c2 (p : Prog) (n q : Int) (seen : List (Int × Str × Int)) (node : Int) (i : List Str) (a : Lv) (b : Lv) (hk0 : (Ch.c2 i a b).ok) (hdl : b.defs.length ≤ 1000000000) (F : List Str → List Str → Lv → Auto → Lv × Int) (au : Auto) (hw : (autoT au).w ≤ 1000000000)
  (hst : ∀ s ∈ au.states, Sound Tryz.prog 128 [.ref 0 0, .i node, .ref 9 0, .t (.ag (staC s))] (full p n q seen (.c2 i a b)) (Err (stS p seen node F (a.own ++ b.own) (i ++ a.done ++ b.done) s).2 (.t (.sl 1 ((stS p seen node F (a.own ++ b.own) (i ++ a.done ++ b.done) s).1.map T.s))) (failS n q (stS p seen node F (a.own ++ b.own) (i ++ a.done ++ b.done) s).2) (full p n q seen (.c2 i a b))))
  (hgood : ∀ s ∈ au.states, (stS p seen node F (a.own ++ b.own) (i ++ a.done ++ b.done) s).2 = 0 → (stS p seen node F (a.own ++ b.own) (i ++ a.done ++ b.done) s).1.length ≤ 1000000000 ∧ ∀ x ∈ (stS p seen node F (a.own ++ b.own) (i ++ a.done ++ b.done) s).1, x.length ≤ 1000000000) :
  SS 80 [.i node, .ref 9 0, .t (.ag (autoC au))] p n q seen (.c2 i a b) (.c2 i a ⟨b.own, (firstOf (au.states.map (stS p seen node F (a.own ++ b.own) (i ++ a.done ++ b.done)))).foldl ins b.done, b.defs ++ firstOf (au.states.map (stS p seen node F (a.own ++ b.own) (i ++ a.done ++ b.done)))⟩)
   (orE (dupE [] (au.states.map Sta.name)) (orE (firstE Prod.snd (au.states.map (stS p seen node F (a.own ++ b.own) (i ++ a.done ++ b.done)))) (if sameAll (au.states.map (stS p seen node F (a.own ++ b.own) (i ++ a.done ++ b.done))) = true then 0 else 8))) := by
 have hwa := w_auto au
 have hlb : au.states.length ≤ 1000000000 := by have := w_lenM staT 6 au.states; omega
 have hset := fun {x : Lv} (hx : x.ok) => Ch.ok_set hk0 hx
 have ht0 := Ch.ok_top hk0
 simp only [Ch.top, Ch.set] at hset ht0
 clear hk0 hwa hw
 unfold autoC
 generalize au.states = l at *
 have hml : (l.map staT).length = l.length := List.length_map _
 have hrl : (l.map (stS p seen node F (a.own ++ b.own) (i ++ a.done ++ b.done))).length = l.length := List.length_map _
 have hnl : (l.map Sta.name).length = l.length := List.length_map _
 have hz : orE (dupE [] (l.map Sta.name)) (orE (firstE Prod.snd (l.map (stS p seen node F (a.own ++ b.own) (i ++ a.done ++ b.done)))) (if sameAll (l.map (stS p seen node F (a.own ++ b.own) (i ++ a.done ++ b.done))) = true then 0 else 8)) = orE (dupE [] (l.map Sta.name)) (orE (firstE Prod.snd (l.map (stS p seen node F (a.own ++ b.own) (i ++ a.done ++ b.done)))) (if sameAll (l.map (stS p seen node F (a.own ++ b.own) (i ++ a.done ++ b.done))) = true then 0 else 8)) := rfl
 conv at hz => rhs; simp only [orE]
 generalize hzz : orE (dupE [] (l.map Sta.name)) (orE (firstE Prod.snd (l.map (stS p seen node F (a.own ++ b.own) (i ++ a.done ++ b.done)))) (if sameAll (l.map (stS p seen node F (a.own ++ b.own) (i ++ a.done ++ b.done))) = true then 0 else 8)) = z at hz ⊢
 clear hzz
 refine Sound.err rfl (fun _ => rfl) ?_
 refine Sound.of tabOk Tryz.func80 (by kernel_rfl) rfl rfl ?_
 refine TR.dead ?_
 repeat' (first | refine wkt ?_ | refine wk ?_ | exact wkc | intro hc | refine wk2 ?_ ?_ | fail)
 refine TR.loopN l.length (fun k => dupE [] ((l.map Sta.name).take k) = 0) (fun k => [(0, .ref 0 0), (1, .i node), (2, .ref 9 0), (7, .cp [.sl 6 (l.map staT)] 0), (18, .t (.sl 6 (l.map staT))), (19, .i (l.map staT).length), (20, .i k)]) (fun _ => full p n q seen (.c2 i a b)) rfl (fun k hlt ha => ?_) (fun ha => ?_)
 ·have hx := at_sta hlt
  have hkn : k < (l.map Sta.name).length := by omega
  have hcon := conState_sound 127 [.cp (staC l[k]) 0] rfl (fun y => y.name == l[k].name) (l.take k) (by simp; omega) (fun y => staNamed_sound y l[k])
  rw [states_any, List.map_take, List.map_take] at hcon
  have g1 := dup_next hkn ha
  have g2 := dup_bad hkn ha
  rw [List.getElem_map] at g1 g2
  generalize l[k] = x at *
  unfold staC at hx hcon
  clear hst hgood
  by_cases hm : x.name ∈ (l.map Sta.name).take k
  ·rw [decide_eq_true hm] at hcon
   repeat' (first | refine wkt ?_ | refine wka ?_ | refine wkD ?_ | refine wk ?_ | exact wkc | intro hc | refine wk2 ?_ ?_ | (apply TO.setGet; exact rfl; exact rfl; exact rfl; exact rfl; assumption; assumption) | (apply TO.nilGet; exact rfl; exact rfl; exact rfl; assumption) | (apply TO.setPut; exact rfl; exact rfl; exact rfl; exact rfl; assumption; assumption; exact rfl) | refine wms ?_ | (apply TO.sees hk; exact rfl; exact rfl; (first | exact rfl | exact Ch.tk _ _ _ _ _); assumption) | (apply TO.defined hk; exact rfl; exact rfl; (first | exact rfl | exact Ch.tk _ _ _ _ _); assumption) | (apply TO.slice_hi tabOk; exact rfl; exact rfl; exact rfl; exact rfl; exact rfl; omega) | (apply TO.callV hcon; exact rfl; exact rfl; exact rfl; exact Les.refl _; exact rfl; exact rfl) | fail)
   (repeat' (first | refine LoopK.panic ?_ | refine wk ?_ | fail)); apply retS
   ·decide
   ·rw [hz, g2 hm]; rfl
   ·exact Nat.le_of_ble_eq_true rfl
  ·rw [decide_eq_false hm] at hcon
   repeat' (first | refine wkt ?_ | refine wka ?_ | refine wkD ?_ | refine wk ?_ | exact wkc | intro hc | refine wk2 ?_ ?_ | (apply TO.setGet; exact rfl; exact rfl; exact rfl; exact rfl; assumption; assumption) | (apply TO.nilGet; exact rfl; exact rfl; exact rfl; assumption) | (apply TO.setPut; exact rfl; exact rfl; exact rfl; exact rfl; assumption; assumption; exact rfl) | refine wms ?_ | (apply TO.sees hk; exact rfl; exact rfl; (first | exact rfl | exact Ch.tk _ _ _ _ _); assumption) | (apply TO.defined hk; exact rfl; exact rfl; (first | exact rfl | exact Ch.tk _ _ _ _ _); assumption) | (apply TO.slice_hi tabOk; exact rfl; exact rfl; exact rfl; exact rfl; exact rfl; omega) | (apply TO.callV hcon; exact rfl; exact rfl; exact rfl; exact Les.refl _; exact rfl; exact rfl) | fail)
   exact LoopK.nextN hlt (g1 hm)
 have ed : dupE [] (l.map Sta.name) = 0 := by rw [← hnl, List.take_length] at ha; exact ha
 rw [ed] at hz
 refine wk ?_
 repeat' (first | refine wkt ?_ | refine wk ?_ | exact wkc | intro hc | refine wk2 ?_ ?_ | fail)
 refine TR.less 10 (v' := .t (.sl 1 [])) rfl (Le.nil 1) ?_
 have hgd : ∀ k (hk : k < l.length) r, (l.map (stS p seen node F (a.own ++ b.own) (i ++ a.done ++ b.done)))[k]? = some r → stS p seen node F (a.own ++ b.own) (i ++ a.done ++ b.done) l[k] = r := fun k hk r hr => by
  rw [List.getElem?_map, List.getElem?_eq_getElem hk] at hr
  exact Option.some.inj hr
 have hf1 : firstE Prod.snd (l.map (stS p seen node F (a.own ++ b.own) (i ++ a.done ++ b.done))) = 0 → (firstOf (l.map (stS p seen node F (a.own ++ b.own) (i ++ a.done ++ b.done)))).length ≤ 1000000000 ∧ ∀ x ∈ firstOf (l.map (stS p seen node F (a.own ++ b.own) (i ++ a.done ++ b.done))), x.length ≤ 1000000000 := by
  intro h0
  cases l with
  | nil => exact ⟨by simp [firstOf], by simp [firstOf]⟩
  | cons s r =>
    have : (stS p seen node F (a.own ++ b.own) (i ++ a.done ++ b.done) s).2 = 0 := by
     rw [List.map_cons, firstE] at h0
     split at h0
     ·assumption
     ·exact h0
    exact hgood s (by simp) this
 have hrg : ∀ k (hk : k < l.length), ((stS p seen node F (a.own ++ b.own) (i ++ a.done ++ b.done) l[k])).2 = 0 → (stS p seen node F (a.own ++ b.own) (i ++ a.done ++ b.done) l[k]).1.length ≤ 1000000000 := fun k hk h0 => (hgood _ (List.getElem_mem hk) h0).1
 have hss : ∀ k (hk : k < l.length), Sound Tryz.prog 128 [.ref 0 0, .i node, .ref 9 0, .t (.ag (staC l[k]))] (full p n q seen (.c2 i a b)) (Err (stS p seen node F (a.own ++ b.own) (i ++ a.done ++ b.done) l[k]).2 (.t (.sl 1 ((stS p seen node F (a.own ++ b.own) (i ++ a.done ++ b.done) l[k]).1.map T.s))) (failS n q (stS p seen node F (a.own ++ b.own) (i ++ a.done ++ b.done) l[k]).2) (full p n q seen (.c2 i a b))) := fun k hk => hst _ (List.getElem_mem hk)
 have hfl0 : ∀ k, 0 < k → firstE Prod.snd ((l.map (stS p seen node F (a.own ++ b.own) (i ++ a.done ++ b.done))).take k) = 0 → (firstOf ((l.map (stS p seen node F (a.own ++ b.own) (i ++ a.done ++ b.done))).take k)).length ≤ 1000000000 := by
  intro k hk h0
  cases l with
  | nil => simp [firstOf]
  | cons s r =>
    obtain ⟨k, rfl⟩ : ∃ j, k = j + 1 := ⟨k - 1, by omega⟩
    have : (stS p seen node F (a.own ++ b.own) (i ++ a.done ++ b.done) s).2 = 0 := by
     rw [List.map_cons, List.take_succ_cons, firstE] at h0
     split at h0
     ·assumption
     ·exact h0
    exact (hgood s (by simp) this).1
 clear hst hgood
 generalize hrs : l.map (stS p seen node F (a.own ++ b.own) (i ++ a.done ++ b.done)) = rs at *
 refine TR.loopN l.length (fun k => firstE Prod.snd (rs.take k) = 0) (fun k => [(0, .ref 0 0), (1, .i node), (2, .ref 9 0), (7, .cp [.sl 6 (l.map staT)] 0), (10, .t (.sl 1 ((firstOf (rs.take k)).map T.s))), (11, .b (sameAll (rs.take k))), (36, .t (.sl 6 (l.map staT))), (37, .i (l.map staT).length), (38, .i k)]) (fun _ => full p n q seen (.c2 i a b)) rfl (fun k hlt ha => ?_) (fun ha => ?_)
 ·have hx := at_sta hlt
  have hkr : k < rs.length := by omega
  have g1 := firstE_at (f := Prod.snd) hkr ha
  have g2 := firstE_next (f := Prod.snd) hkr ha
  have g3 := same_take hkr
  have hs := hss k hlt
  have hg := hrg k hlt
  rw [hgd k hlt _ (List.getElem?_eq_getElem hkr)] at hs hg
  have hfk := hfl0 k
  have hfk1 : k = 0 → firstOf (rs.take (k + 1)) = rs[k].1 := fun h0 => by
   subst h0
   cases rs with
   | nil => simp at hkr
   | cons r rr => rfl
  have hfk2 : k ≠ 0 → firstOf (rs.take (k + 1)) = firstOf (rs.take k) := fun h0 => by rw [firstOf_take (Nat.succ_pos k), firstOf_take (by omega)]
  clear hss hrg hgd hfl0
  generalize rs[k] = r at *
  generalize l[k] = x at *
  generalize firstOf (rs.take k) = fs at *
  generalize hfs1 : firstOf (rs.take (k + 1)) = fs1 at *
  obtain ⟨r1, r2⟩ := r
  simp only at hs hg g1 g2 g3 hfk1
  by_cases hr2 : r2 = 0
  ·subst hr2
   have hrl1 := hg rfl
   have hal := alike_sound r1 fs1 hrl1 (by
    by_cases h0 : k = 0
    ·rw [hfk1 h0]; exact hrl1
    ·rw [hfk2 h0]; exact hfk (by omega) ha)
   unfold staC at hx hs
   generalize sameAll (rs.take k) = sm at *
   by_cases h0 : k = 0
   ·have hf := hfk1 h0
    subst hf
    clear hfk1 hfk2
    cases sm
    all_goals
     repeat' (first | refine wkt ?_ | refine wka ?_ | refine wkD ?_ | refine wk ?_ | exact wkc | intro hc | refine wk2 ?_ ?_ | (apply TO.setGet; exact rfl; exact rfl; exact rfl; exact rfl; assumption; assumption) | (apply TO.nilGet; exact rfl; exact rfl; exact rfl; assumption) | (apply TO.setPut; exact rfl; exact rfl; exact rfl; exact rfl; assumption; assumption; exact rfl) | refine wms ?_ | (apply TO.sees hk; exact rfl; exact rfl; (first | exact rfl | exact Ch.tk _ _ _ _ _); assumption) | (apply TO.defined hk; exact rfl; exact rfl; (first | exact rfl | exact Ch.tk _ _ _ _ _); assumption) | refine wss hs ?_ ?_ | refine wb hal ?_ ?_ | fail)
    all_goals first
     | (exfalso; omega)
     | (refine LoopK.nextN hlt (g2 rfl) ?_
        simp only [Bool.false_and, Bool.true_and] at g3
        first | rw [hc] at g3 | skip
        simp only [hfs1, g3]
        repeat' (first | exact trivial | refine And.intro rfl ?_ | fail))
   ·have hf := hfk2 h0
    subst hf
    clear hfk1 hfk2
    cases sm
    all_goals
     repeat' (first | refine wkt ?_ | refine wka ?_ | refine wkD ?_ | refine wk ?_ | exact wkc | intro hc | refine wk2 ?_ ?_ | (apply TO.setGet; exact rfl; exact rfl; exact rfl; exact rfl; assumption; assumption) | (apply TO.nilGet; exact rfl; exact rfl; exact rfl; assumption) | (apply TO.setPut; exact rfl; exact rfl; exact rfl; exact rfl; assumption; assumption; exact rfl) | refine wms ?_ | (apply TO.sees hk; exact rfl; exact rfl; (first | exact rfl | exact Ch.tk _ _ _ _ _); assumption) | (apply TO.defined hk; exact rfl; exact rfl; (first | exact rfl | exact Ch.tk _ _ _ _ _); assumption) | refine wss hs ?_ ?_ | refine wb hal ?_ ?_ | fail)
    all_goals first
     | (exfalso; omega)
     | (refine LoopK.nextN hlt (g2 rfl) ?_
        simp only [Bool.false_and, Bool.true_and] at g3
        first | rw [hc] at g3 | skip
        simp only [hfs1, g3]
        repeat' (first | exact trivial | refine And.intro rfl ?_ | fail))
  ·unfold staC at hx hs
   repeat' (first | refine wkt ?_ | refine wka ?_ | refine wkD ?_ | refine wk ?_ | exact wkc | intro hc | refine wk2 ?_ ?_ | (apply TO.setGet; exact rfl; exact rfl; exact rfl; exact rfl; assumption; assumption) | (apply TO.nilGet; exact rfl; exact rfl; exact rfl; assumption) | (apply TO.setPut; exact rfl; exact rfl; exact rfl; exact rfl; assumption; assumption; exact rfl) | refine wms ?_ | (apply TO.sees hk; exact rfl; exact rfl; (first | exact rfl | exact Ch.tk _ _ _ _ _); assumption) | (apply TO.defined hk; exact rfl; exact rfl; (first | exact rfl | exact Ch.tk _ _ _ _ _); assumption) | refine wss hs ?_ ?_ | fail)
   all_goals first
    | exact absurd hc hr2
    | ((repeat' (first | refine LoopK.panic ?_ | refine wk ?_ | fail)); apply retS; (first | assumption | decide); (clear hs hx; first | grind | grind [orE]); (first | exact Nat.le_of_ble_eq_true rfl | exact Nat.le_refl _ | (simp [Ch.len]; done) | (simp [Ch.len]; omega)))
 have e1 : firstE Prod.snd rs = 0 := by rw [← hrl, List.take_length] at ha; exact ha
 rw [← hrl, List.take_length]
 rw [e1] at hz
 obtain ⟨hfl, hfs⟩ := hf1 e1
 clear hss hrg hgd hfl0 hf1
 generalize firstOf rs = fs at *
 generalize sameAll rs = sm at *
 clear hrs
 cases sm
 ·repeat' (first | refine wkt ?_ | refine wka ?_ | refine wkD ?_ | refine wk ?_ | exact wkc | intro hc | refine wk2 ?_ ?_ | (apply TO.setGet; exact rfl; exact rfl; exact rfl; exact rfl; assumption; assumption) | (apply TO.nilGet; exact rfl; exact rfl; exact rfl; assumption) | (apply TO.setPut; exact rfl; exact rfl; exact rfl; exact rfl; assumption; assumption; exact rfl) | refine wms ?_ | (apply TO.sees hk; exact rfl; exact rfl; (first | exact rfl | exact Ch.tk _ _ _ _ _); assumption) | (apply TO.defined hk; exact rfl; exact rfl; (first | exact rfl | exact Ch.tk _ _ _ _ _); assumption) | fail | fail)
  all_goals ((repeat' (first | refine LoopK.panic ?_ | refine wk ?_ | fail)); apply retS; (first | assumption | decide); (clear hml; first | grind | grind [orE]); (first | exact Nat.le_of_ble_eq_true rfl | exact Nat.le_refl _ | (simp [Ch.len]; done) | (simp [Ch.len]; omega)))
 ·rw [if_pos rfl] at hz
  repeat' (first | refine wkt ?_ | refine wka ?_ | refine wkD ?_ | refine wk ?_ | exact wkc | intro hc | refine wk2 ?_ ?_ | (apply TO.setGet; exact rfl; exact rfl; exact rfl; exact rfl; assumption; assumption) | (apply TO.nilGet; exact rfl; exact rfl; exact rfl; assumption) | (apply TO.setPut; exact rfl; exact rfl; exact rfl; exact rfl; assumption; assumption; exact rfl) | refine wms ?_ | (apply TO.sees hk; exact rfl; exact rfl; (first | exact rfl | exact Ch.tk _ _ _ _ _); assumption) | (apply TO.defined hk; exact rfl; exact rfl; (first | exact rfl | exact Ch.tk _ _ _ _ _); assumption) | fail | fail)
  have hml2 : (fs.map T.s).length = fs.length := List.length_map _
  have hins : ∀ (l : List Str) (d : List Str), SetOk d → (∀ x ∈ l, x.length ≤ 1000000000) → SetOk (l.foldl ins d) := by
   intro l
   induction l with
   | nil => intro d hd _; exact hd
   | cons y l ih => intro d hd hl; exact ih _ (hd.ins (hl y (by simp))) (fun x hx => hl x (by simp [hx]))
  refine TR.loopN fs.length (fun _ => True) (fun k => [(0, .ref 0 0), (1, .i node), (2, .ref 9 0), (7, .cp [.sl 6 (l.map staT)] 0), (10, .t (.sl 1 (fs.map T.s))), (61, .t (.sl 1 (fs.map T.s))), (62, .i (fs.map T.s).length), (63, .i k)]) (fun k => full p n q seen (.c2 i a ⟨b.own, (fs.take k).foldl ins b.done, b.defs⟩)) trivial (fun k hlt _ => ?_) (fun _ => ?_)
  ·have hx := at_s hlt
   have hno := hfs _ (List.getElem_mem hlt)
   have hdn := hins (fs.take k) b.done ht0.done (fun x hx => hfs x (List.mem_of_mem_take hx))
   have g2 : (fs.take (k + 1)).foldl ins b.done = ins ((fs.take k).foldl ins b.done) fs[k] := by rw [List.take_succ_eq_append_getElem hlt, List.foldl_append]; rfl
   generalize (fs.take k).foldl ins b.done = dn at *
   generalize fs[k] = x at *
   repeat' (first | refine wkt ?_ | refine wka ?_ | refine wkD ?_ | refine wk ?_ | exact wkc | intro hc | refine wk2 ?_ ?_ | (apply TO.setGet; exact rfl; exact rfl; exact rfl; exact rfl; assumption; assumption) | (apply TO.nilGet; exact rfl; exact rfl; exact rfl; assumption) | (apply TO.setPut; exact rfl; exact rfl; exact rfl; exact rfl; assumption; assumption; exact rfl) | refine wms ?_ | (apply TO.sees hk; exact rfl; exact rfl; (first | exact rfl | exact Ch.tk _ _ _ _ _); assumption) | (apply TO.defined hk; exact rfl; exact rfl; (first | exact rfl | exact Ch.tk _ _ _ _ _); assumption) | fail | fail)
   refine LoopK.nextN hlt trivial ?_ (by rw [g2]; rfl)
   repeat' (first | exact trivial | refine And.intro rfl ?_ | fail)
  ·rw [List.take_length]
   have hl1 : (b.defs.map T.s).length = b.defs.length := List.length_map _
   have hma : (b.defs ++ fs).map T.s = b.defs.map T.s ++ fs.map T.s := List.map_append
   generalize fs.foldl ins b.done = dn at *
   have hone : (fs.map T.s).all T.one = true := by simp [T.one]
   repeat' (first | refine wkt ?_ | refine wka ?_ | refine wkD ?_ | refine wk ?_ | exact wkc | intro hc | refine wk2 ?_ ?_ | (apply TO.setGet; exact rfl; exact rfl; exact rfl; exact rfl; assumption; assumption) | (apply TO.nilGet; exact rfl; exact rfl; exact rfl; assumption) | (apply TO.setPut; exact rfl; exact rfl; exact rfl; exact rfl; assumption; assumption; exact rfl) | refine wms ?_ | (apply TO.sees hk; exact rfl; exact rfl; (first | exact rfl | exact Ch.tk _ _ _ _ _); assumption) | (apply TO.defined hk; exact rfl; exact rfl; (first | exact rfl | exact Ch.tk _ _ _ _ _); assumption) | (apply TO.append_row tabOk; exact rfl; exact rfl; exact rfl; exact rfl; exact rfl; exact rfl; exact rfl; exact rfl; exact rfl; (exact Nat.beq_refl _); exact rfl; exact rfl; exact hone; exact rfl; (show (b.defs.map T.s).length + (fs.map T.s).length ≤ _; omega); exact rfl) | fail)
   refine retSN (H1 := full p n q seen (.c2 i a ⟨b.own, dn, b.defs ++ fs⟩)) hz rfl rfl ?_ rfl
   show _ = full p n q seen (.c2 i a ⟨b.own, dn, b.defs ++ fs⟩)
   simp only [full, Ch.heap, nmB, rowB, hma]
   rfl
set_option maxHeartbeats 1000000 in
theorem au_c3 (p : Prog) (n q : Int) (seen : List (Int × Str × Int)) (node : Int) (i : List Str) (a : Lv) (b : Lv) (c : Lv) (hk0 : (Ch.c3 i a b c).ok) (hdl : c.defs.length ≤ 1000000000) (F : List Str → List Str → Lv → Auto → Lv × Int) (au : Auto) (hw : (autoT au).w ≤ 1000000000)
  (hst : ∀ s ∈ au.states, Sound Tryz.prog 128 [.ref 0 0, .i node, .ref 13 0, .t (.ag (staC s))] (full p n q seen (.c3 i a b c)) (Err (stS p seen node F (a.own ++ b.own ++ c.own) (i ++ a.done ++ b.done ++ c.done) s).2 (.t (.sl 1 ((stS p seen node F (a.own ++ b.own ++ c.own) (i ++ a.done ++ b.done ++ c.done) s).1.map T.s))) (failS n q (stS p seen node F (a.own ++ b.own ++ c.own) (i ++ a.done ++ b.done ++ c.done) s).2) (full p n q seen (.c3 i a b c))))
  (hgood : ∀ s ∈ au.states, (stS p seen node F (a.own ++ b.own ++ c.own) (i ++ a.done ++ b.done ++ c.done) s).2 = 0 → (stS p seen node F (a.own ++ b.own ++ c.own) (i ++ a.done ++ b.done ++ c.done) s).1.length ≤ 1000000000 ∧ ∀ x ∈ (stS p seen node F (a.own ++ b.own ++ c.own) (i ++ a.done ++ b.done ++ c.done) s).1, x.length ≤ 1000000000) :
  SS 80 [.i node, .ref 13 0, .t (.ag (autoC au))] p n q seen (.c3 i a b c) (.c3 i a b ⟨c.own, (firstOf (au.states.map (stS p seen node F (a.own ++ b.own ++ c.own) (i ++ a.done ++ b.done ++ c.done)))).foldl ins c.done, c.defs ++ firstOf (au.states.map (stS p seen node F (a.own ++ b.own ++ c.own) (i ++ a.done ++ b.done ++ c.done)))⟩)
   (orE (dupE [] (au.states.map Sta.name)) (orE (firstE Prod.snd (au.states.map (stS p seen node F (a.own ++ b.own ++ c.own) (i ++ a.done ++ b.done ++ c.done)))) (if sameAll (au.states.map (stS p seen node F (a.own ++ b.own ++ c.own) (i ++ a.done ++ b.done ++ c.done))) = true then 0 else 8))) := by
 have hwa := w_auto au
 have hlb : au.states.length ≤ 1000000000 := by have := w_lenM staT 6 au.states; omega
 have hset := fun {x : Lv} (hx : x.ok) => Ch.ok_set hk0 hx
 have ht0 := Ch.ok_top hk0
 simp only [Ch.top, Ch.set] at hset ht0
 clear hk0 hwa hw
 unfold autoC
 generalize au.states = l at *
 have hml : (l.map staT).length = l.length := List.length_map _
 have hrl : (l.map (stS p seen node F (a.own ++ b.own ++ c.own) (i ++ a.done ++ b.done ++ c.done))).length = l.length := List.length_map _
 have hnl : (l.map Sta.name).length = l.length := List.length_map _
 have hz : orE (dupE [] (l.map Sta.name)) (orE (firstE Prod.snd (l.map (stS p seen node F (a.own ++ b.own ++ c.own) (i ++ a.done ++ b.done ++ c.done)))) (if sameAll (l.map (stS p seen node F (a.own ++ b.own ++ c.own) (i ++ a.done ++ b.done ++ c.done))) = true then 0 else 8)) = orE (dupE [] (l.map Sta.name)) (orE (firstE Prod.snd (l.map (stS p seen node F (a.own ++ b.own ++ c.own) (i ++ a.done ++ b.done ++ c.done)))) (if sameAll (l.map (stS p seen node F (a.own ++ b.own ++ c.own) (i ++ a.done ++ b.done ++ c.done))) = true then 0 else 8)) := rfl
 conv at hz => rhs; simp only [orE]
 generalize hzz : orE (dupE [] (l.map Sta.name)) (orE (firstE Prod.snd (l.map (stS p seen node F (a.own ++ b.own ++ c.own) (i ++ a.done ++ b.done ++ c.done)))) (if sameAll (l.map (stS p seen node F (a.own ++ b.own ++ c.own) (i ++ a.done ++ b.done ++ c.done))) = true then 0 else 8)) = z at hz ⊢
 clear hzz
 refine Sound.err rfl (fun _ => rfl) ?_
 refine Sound.of tabOk Tryz.func80 (by kernel_rfl) rfl rfl ?_
 refine TR.dead ?_
 repeat' (first | refine wkt ?_ | refine wk ?_ | exact wkc | intro hc | refine wk2 ?_ ?_ | fail)
 refine TR.loopN l.length (fun k => dupE [] ((l.map Sta.name).take k) = 0) (fun k => [(0, .ref 0 0), (1, .i node), (2, .ref 13 0), (7, .cp [.sl 6 (l.map staT)] 0), (18, .t (.sl 6 (l.map staT))), (19, .i (l.map staT).length), (20, .i k)]) (fun _ => full p n q seen (.c3 i a b c)) rfl (fun k hlt ha => ?_) (fun ha => ?_)
 ·have hx := at_sta hlt
  have hkn : k < (l.map Sta.name).length := by omega
  have hcon := conState_sound 127 [.cp (staC l[k]) 0] rfl (fun y => y.name == l[k].name) (l.take k) (by simp; omega) (fun y => staNamed_sound y l[k])
  rw [states_any, List.map_take, List.map_take] at hcon
  have g1 := dup_next hkn ha
  have g2 := dup_bad hkn ha
  rw [List.getElem_map] at g1 g2
  generalize l[k] = x at *
  unfold staC at hx hcon
  clear hst hgood
  by_cases hm : x.name ∈ (l.map Sta.name).take k
  ·rw [decide_eq_true hm] at hcon
   repeat' (first | refine wkt ?_ | refine wka ?_ | refine wkD ?_ | refine wk ?_ | exact wkc | intro hc | refine wk2 ?_ ?_ | (apply TO.setGet; exact rfl; exact rfl; exact rfl; exact rfl; assumption; assumption) | (apply TO.nilGet; exact rfl; exact rfl; exact rfl; assumption) | (apply TO.setPut; exact rfl; exact rfl; exact rfl; exact rfl; assumption; assumption; exact rfl) | refine wms ?_ | (apply TO.sees hk; exact rfl; exact rfl; (first | exact rfl | exact Ch.tk _ _ _ _ _); assumption) | (apply TO.defined hk; exact rfl; exact rfl; (first | exact rfl | exact Ch.tk _ _ _ _ _); assumption) | (apply TO.slice_hi tabOk; exact rfl; exact rfl; exact rfl; exact rfl; exact rfl; omega) | (apply TO.callV hcon; exact rfl; exact rfl; exact rfl; exact Les.refl _; exact rfl; exact rfl) | fail)
   (repeat' (first | refine LoopK.panic ?_ | refine wk ?_ | fail)); apply retS
   ·decide
   ·rw [hz, g2 hm]; rfl
   ·exact Nat.le_of_ble_eq_true rfl
  ·rw [decide_eq_false hm] at hcon
   repeat' (first | refine wkt ?_ | refine wka ?_ | refine wkD ?_ | refine wk ?_ | exact wkc | intro hc | refine wk2 ?_ ?_ | (apply TO.setGet; exact rfl; exact rfl; exact rfl; exact rfl; assumption; assumption) | (apply TO.nilGet; exact rfl; exact rfl; exact rfl; assumption) | (apply TO.setPut; exact rfl; exact rfl; exact rfl; exact rfl; assumption; assumption; exact rfl) | refine wms ?_ | (apply TO.sees hk; exact rfl; exact rfl; (first | exact rfl | exact Ch.tk _ _ _ _ _); assumption) | (apply TO.defined hk; exact rfl; exact rfl; (first | exact rfl | exact Ch.tk _ _ _ _ _); assumption) | (apply TO.slice_hi tabOk; exact rfl; exact rfl; exact rfl; exact rfl; exact rfl; omega) | (apply TO.callV hcon; exact rfl; exact rfl; exact rfl; exact Les.refl _; exact rfl; exact rfl) | fail)
   exact LoopK.nextN hlt (g1 hm)
 have ed : dupE [] (l.map Sta.name) = 0 := by rw [← hnl, List.take_length] at ha; exact ha
 rw [ed] at hz
 refine wk ?_
 repeat' (first | refine wkt ?_ | refine wk ?_ | exact wkc | intro hc | refine wk2 ?_ ?_ | fail)
 refine TR.less 10 (v' := .t (.sl 1 [])) rfl (Le.nil 1) ?_
 have hgd : ∀ k (hk : k < l.length) r, (l.map (stS p seen node F (a.own ++ b.own ++ c.own) (i ++ a.done ++ b.done ++ c.done)))[k]? = some r → stS p seen node F (a.own ++ b.own ++ c.own) (i ++ a.done ++ b.done ++ c.done) l[k] = r := fun k hk r hr => by
  rw [List.getElem?_map, List.getElem?_eq_getElem hk] at hr
  exact Option.some.inj hr
 have hf1 : firstE Prod.snd (l.map (stS p seen node F (a.own ++ b.own ++ c.own) (i ++ a.done ++ b.done ++ c.done))) = 0 → (firstOf (l.map (stS p seen node F (a.own ++ b.own ++ c.own) (i ++ a.done ++ b.done ++ c.done)))).length ≤ 1000000000 ∧ ∀ x ∈ firstOf (l.map (stS p seen node F (a.own ++ b.own ++ c.own) (i ++ a.done ++ b.done ++ c.done))), x.length ≤ 1000000000 := by
  intro h0
  cases l with
  | nil => exact ⟨by simp [firstOf], by simp [firstOf]⟩
  | cons s r =>
    have : (stS p seen node F (a.own ++ b.own ++ c.own) (i ++ a.done ++ b.done ++ c.done) s).2 = 0 := by
     rw [List.map_cons, firstE] at h0
     split at h0
     ·assumption
     ·exact h0
    exact hgood s (by simp) this
 have hrg : ∀ k (hk : k < l.length), ((stS p seen node F (a.own ++ b.own ++ c.own) (i ++ a.done ++ b.done ++ c.done) l[k])).2 = 0 → (stS p seen node F (a.own ++ b.own ++ c.own) (i ++ a.done ++ b.done ++ c.done) l[k]).1.length ≤ 1000000000 := fun k hk h0 => (hgood _ (List.getElem_mem hk) h0).1
 have hss : ∀ k (hk : k < l.length), Sound Tryz.prog 128 [.ref 0 0, .i node, .ref 13 0, .t (.ag (staC l[k]))] (full p n q seen (.c3 i a b c)) (Err (stS p seen node F (a.own ++ b.own ++ c.own) (i ++ a.done ++ b.done ++ c.done) l[k]).2 (.t (.sl 1 ((stS p seen node F (a.own ++ b.own ++ c.own) (i ++ a.done ++ b.done ++ c.done) l[k]).1.map T.s))) (failS n q (stS p seen node F (a.own ++ b.own ++ c.own) (i ++ a.done ++ b.done ++ c.done) l[k]).2) (full p n q seen (.c3 i a b c))) := fun k hk => hst _ (List.getElem_mem hk)
 have hfl0 : ∀ k, 0 < k → firstE Prod.snd ((l.map (stS p seen node F (a.own ++ b.own ++ c.own) (i ++ a.done ++ b.done ++ c.done))).take k) = 0 → (firstOf ((l.map (stS p seen node F (a.own ++ b.own ++ c.own) (i ++ a.done ++ b.done ++ c.done))).take k)).length ≤ 1000000000 := by
  intro k hk h0
  cases l with
  | nil => simp [firstOf]
  | cons s r =>
    obtain ⟨k, rfl⟩ : ∃ j, k = j + 1 := ⟨k - 1, by omega⟩
    have : (stS p seen node F (a.own ++ b.own ++ c.own) (i ++ a.done ++ b.done ++ c.done) s).2 = 0 := by
     rw [List.map_cons, List.take_succ_cons, firstE] at h0
     split at h0
     ·assumption
     ·exact h0
    exact (hgood s (by simp) this).1
 clear hst hgood
 generalize hrs : l.map (stS p seen node F (a.own ++ b.own ++ c.own) (i ++ a.done ++ b.done ++ c.done)) = rs at *
 refine TR.loopN l.length (fun k => firstE Prod.snd (rs.take k) = 0) (fun k => [(0, .ref 0 0), (1, .i node), (2, .ref 13 0), (7, .cp [.sl 6 (l.map staT)] 0), (10, .t (.sl 1 ((firstOf (rs.take k)).map T.s))), (11, .b (sameAll (rs.take k))), (36, .t (.sl 6 (l.map staT))), (37, .i (l.map staT).length), (38, .i k)]) (fun _ => full p n q seen (.c3 i a b c)) rfl (fun k hlt ha => ?_) (fun ha => ?_)
 ·have hx := at_sta hlt
  have hkr : k < rs.length := by omega
  have g1 := firstE_at (f := Prod.snd) hkr ha
  have g2 := firstE_next (f := Prod.snd) hkr ha
  have g3 := same_take hkr
  have hs := hss k hlt
  have hg := hrg k hlt
  rw [hgd k hlt _ (List.getElem?_eq_getElem hkr)] at hs hg
  have hfk := hfl0 k
  have hfk1 : k = 0 → firstOf (rs.take (k + 1)) = rs[k].1 := fun h0 => by
   subst h0
   cases rs with
   | nil => simp at hkr
   | cons r rr => rfl
  have hfk2 : k ≠ 0 → firstOf (rs.take (k + 1)) = firstOf (rs.take k) := fun h0 => by rw [firstOf_take (Nat.succ_pos k), firstOf_take (by omega)]
  clear hss hrg hgd hfl0
  generalize rs[k] = r at *
  generalize l[k] = x at *
  generalize firstOf (rs.take k) = fs at *
  generalize hfs1 : firstOf (rs.take (k + 1)) = fs1 at *
  obtain ⟨r1, r2⟩ := r
  simp only at hs hg g1 g2 g3 hfk1
  by_cases hr2 : r2 = 0
  ·subst hr2
   have hrl1 := hg rfl
   have hal := alike_sound r1 fs1 hrl1 (by
    by_cases h0 : k = 0
    ·rw [hfk1 h0]; exact hrl1
    ·rw [hfk2 h0]; exact hfk (by omega) ha)
   unfold staC at hx hs
   generalize sameAll (rs.take k) = sm at *
   by_cases h0 : k = 0
   ·have hf := hfk1 h0
    subst hf
    clear hfk1 hfk2
    cases sm
    all_goals
     repeat' (first | refine wkt ?_ | refine wka ?_ | refine wkD ?_ | refine wk ?_ | exact wkc | intro hc | refine wk2 ?_ ?_ | (apply TO.setGet; exact rfl; exact rfl; exact rfl; exact rfl; assumption; assumption) | (apply TO.nilGet; exact rfl; exact rfl; exact rfl; assumption) | (apply TO.setPut; exact rfl; exact rfl; exact rfl; exact rfl; assumption; assumption; exact rfl) | refine wms ?_ | (apply TO.sees hk; exact rfl; exact rfl; (first | exact rfl | exact Ch.tk _ _ _ _ _); assumption) | (apply TO.defined hk; exact rfl; exact rfl; (first | exact rfl | exact Ch.tk _ _ _ _ _); assumption) | refine wss hs ?_ ?_ | refine wb hal ?_ ?_ | fail)
    all_goals first
     | (exfalso; omega)
     | (refine LoopK.nextN hlt (g2 rfl) ?_
        simp only [Bool.false_and, Bool.true_and] at g3
        first | rw [hc] at g3 | skip
        simp only [hfs1, g3]
        repeat' (first | exact trivial | refine And.intro rfl ?_ | fail))
   ·have hf := hfk2 h0
    subst hf
    clear hfk1 hfk2
    cases sm
    all_goals
     repeat' (first | refine wkt ?_ | refine wka ?_ | refine wkD ?_ | refine wk ?_ | exact wkc | intro hc | refine wk2 ?_ ?_ | (apply TO.setGet; exact rfl; exact rfl; exact rfl; exact rfl; assumption; assumption) | (apply TO.nilGet; exact rfl; exact rfl; exact rfl; assumption) | (apply TO.setPut; exact rfl; exact rfl; exact rfl; exact rfl; assumption; assumption; exact rfl) | refine wms ?_ | (apply TO.sees hk; exact rfl; exact rfl; (first | exact rfl | exact Ch.tk _ _ _ _ _); assumption) | (apply TO.defined hk; exact rfl; exact rfl; (first | exact rfl | exact Ch.tk _ _ _ _ _); assumption) | refine wss hs ?_ ?_ | refine wb hal ?_ ?_ | fail)
    all_goals first
     | (exfalso; omega)
     | (refine LoopK.nextN hlt (g2 rfl) ?_
        simp only [Bool.false_and, Bool.true_and] at g3
        first | rw [hc] at g3 | skip
        simp only [hfs1, g3]
        repeat' (first | exact trivial | refine And.intro rfl ?_ | fail))
  ·unfold staC at hx hs
   repeat' (first | refine wkt ?_ | refine wka ?_ | refine wkD ?_ | refine wk ?_ | exact wkc | intro hc | refine wk2 ?_ ?_ | (apply TO.setGet; exact rfl; exact rfl; exact rfl; exact rfl; assumption; assumption) | (apply TO.nilGet; exact rfl; exact rfl; exact rfl; assumption) | (apply TO.setPut; exact rfl; exact rfl; exact rfl; exact rfl; assumption; assumption; exact rfl) | refine wms ?_ | (apply TO.sees hk; exact rfl; exact rfl; (first | exact rfl | exact Ch.tk _ _ _ _ _); assumption) | (apply TO.defined hk; exact rfl; exact rfl; (first | exact rfl | exact Ch.tk _ _ _ _ _); assumption) | refine wss hs ?_ ?_ | fail)
   all_goals first
    | exact absurd hc hr2
    | ((repeat' (first | refine LoopK.panic ?_ | refine wk ?_ | fail)); apply retS; (first | assumption | decide); (clear hs hx; first | grind | grind [orE]); (first | exact Nat.le_of_ble_eq_true rfl | exact Nat.le_refl _ | (simp [Ch.len]; done) | (simp [Ch.len]; omega)))
 have e1 : firstE Prod.snd rs = 0 := by rw [← hrl, List.take_length] at ha; exact ha
 rw [← hrl, List.take_length]
 rw [e1] at hz
 obtain ⟨hfl, hfs⟩ := hf1 e1
 clear hss hrg hgd hfl0 hf1
 generalize firstOf rs = fs at *
 generalize sameAll rs = sm at *
 clear hrs
 cases sm
 ·repeat' (first | refine wkt ?_ | refine wka ?_ | refine wkD ?_ | refine wk ?_ | exact wkc | intro hc | refine wk2 ?_ ?_ | (apply TO.setGet; exact rfl; exact rfl; exact rfl; exact rfl; assumption; assumption) | (apply TO.nilGet; exact rfl; exact rfl; exact rfl; assumption) | (apply TO.setPut; exact rfl; exact rfl; exact rfl; exact rfl; assumption; assumption; exact rfl) | refine wms ?_ | (apply TO.sees hk; exact rfl; exact rfl; (first | exact rfl | exact Ch.tk _ _ _ _ _); assumption) | (apply TO.defined hk; exact rfl; exact rfl; (first | exact rfl | exact Ch.tk _ _ _ _ _); assumption) | fail | fail)
  all_goals ((repeat' (first | refine LoopK.panic ?_ | refine wk ?_ | fail)); apply retS; (first | assumption | decide); (clear hml; first | grind | grind [orE]); (first | exact Nat.le_of_ble_eq_true rfl | exact Nat.le_refl _ | (simp [Ch.len]; done) | (simp [Ch.len]; omega)))
 ·rw [if_pos rfl] at hz
  repeat' (first | refine wkt ?_ | refine wka ?_ | refine wkD ?_ | refine wk ?_ | exact wkc | intro hc | refine wk2 ?_ ?_ | (apply TO.setGet; exact rfl; exact rfl; exact rfl; exact rfl; assumption; assumption) | (apply TO.nilGet; exact rfl; exact rfl; exact rfl; assumption) | (apply TO.setPut; exact rfl; exact rfl; exact rfl; exact rfl; assumption; assumption; exact rfl) | refine wms ?_ | (apply TO.sees hk; exact rfl; exact rfl; (first | exact rfl | exact Ch.tk _ _ _ _ _); assumption) | (apply TO.defined hk; exact rfl; exact rfl; (first | exact rfl | exact Ch.tk _ _ _ _ _); assumption) | fail | fail)
  have hml2 : (fs.map T.s).length = fs.length := List.length_map _
  have hins : ∀ (l : List Str) (d : List Str), SetOk d → (∀ x ∈ l, x.length ≤ 1000000000) → SetOk (l.foldl ins d) := by
   intro l
   induction l with
   | nil => intro d hd _; exact hd
   | cons y l ih => intro d hd hl; exact ih _ (hd.ins (hl y (by simp))) (fun x hx => hl x (by simp [hx]))
  refine TR.loopN fs.length (fun _ => True) (fun k => [(0, .ref 0 0), (1, .i node), (2, .ref 13 0), (7, .cp [.sl 6 (l.map staT)] 0), (10, .t (.sl 1 (fs.map T.s))), (61, .t (.sl 1 (fs.map T.s))), (62, .i (fs.map T.s).length), (63, .i k)]) (fun k => full p n q seen (.c3 i a b ⟨c.own, (fs.take k).foldl ins c.done, c.defs⟩)) trivial (fun k hlt _ => ?_) (fun _ => ?_)
  ·have hx := at_s hlt
   have hno := hfs _ (List.getElem_mem hlt)
   have hdn := hins (fs.take k) c.done ht0.done (fun x hx => hfs x (List.mem_of_mem_take hx))
   have g2 : (fs.take (k + 1)).foldl ins c.done = ins ((fs.take k).foldl ins c.done) fs[k] := by rw [List.take_succ_eq_append_getElem hlt, List.foldl_append]; rfl
   generalize (fs.take k).foldl ins c.done = dn at *
   generalize fs[k] = x at *
   repeat' (first | refine wkt ?_ | refine wka ?_ | refine wkD ?_ | refine wk ?_ | exact wkc | intro hc | refine wk2 ?_ ?_ | (apply TO.setGet; exact rfl; exact rfl; exact rfl; exact rfl; assumption; assumption) | (apply TO.nilGet; exact rfl; exact rfl; exact rfl; assumption) | (apply TO.setPut; exact rfl; exact rfl; exact rfl; exact rfl; assumption; assumption; exact rfl) | refine wms ?_ | (apply TO.sees hk; exact rfl; exact rfl; (first | exact rfl | exact Ch.tk _ _ _ _ _); assumption) | (apply TO.defined hk; exact rfl; exact rfl; (first | exact rfl | exact Ch.tk _ _ _ _ _); assumption) | fail | fail)
   refine LoopK.nextN hlt trivial ?_ (by rw [g2]; rfl)
   repeat' (first | exact trivial | refine And.intro rfl ?_ | fail)
  ·rw [List.take_length]
   have hl1 : (c.defs.map T.s).length = c.defs.length := List.length_map _
   have hma : (c.defs ++ fs).map T.s = c.defs.map T.s ++ fs.map T.s := List.map_append
   generalize fs.foldl ins c.done = dn at *
   have hone : (fs.map T.s).all T.one = true := by simp [T.one]
   repeat' (first | refine wkt ?_ | refine wka ?_ | refine wkD ?_ | refine wk ?_ | exact wkc | intro hc | refine wk2 ?_ ?_ | (apply TO.setGet; exact rfl; exact rfl; exact rfl; exact rfl; assumption; assumption) | (apply TO.nilGet; exact rfl; exact rfl; exact rfl; assumption) | (apply TO.setPut; exact rfl; exact rfl; exact rfl; exact rfl; assumption; assumption; exact rfl) | refine wms ?_ | (apply TO.sees hk; exact rfl; exact rfl; (first | exact rfl | exact Ch.tk _ _ _ _ _); assumption) | (apply TO.defined hk; exact rfl; exact rfl; (first | exact rfl | exact Ch.tk _ _ _ _ _); assumption) | (apply TO.append_row tabOk; exact rfl; exact rfl; exact rfl; exact rfl; exact rfl; exact rfl; exact rfl; exact rfl; exact rfl; (exact Nat.beq_refl _); exact rfl; exact rfl; exact hone; exact rfl; (show (c.defs.map T.s).length + (fs.map T.s).length ≤ _; omega); exact rfl) | fail)
   refine retSN (H1 := full p n q seen (.c3 i a b ⟨c.own, dn, c.defs ++ fs⟩)) hz rfl rfl ?_ rfl
   show _ = full p n q seen (.c3 i a b ⟨c.own, dn, c.defs ++ fs⟩)
   simp only [full, Ch.heap, nmB, rowB, hma]
   rfl
end Go.Proofs.YtonjiabmcbdhdaaGreat
