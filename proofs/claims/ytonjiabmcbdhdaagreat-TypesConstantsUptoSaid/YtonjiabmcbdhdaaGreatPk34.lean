import Derived.Test.YtonjiabmcbdhdaaGreatPk27
import Derived.Test.YtonjiabmcbdhdaaGreatPk33
set_option linter.unusedSimpArgs false
set_option linter.unusedVariables false
namespace Go.Proofs.YtonjiabmcbdhdaaGreat
open Go Go.TL
attribute [local irreducible] TR TO Then InBlock RetK Sound LoopK Kf GG ThenL
theorem staNamed_sound (x s : Sta) : Pure Tryz.prog 127 [.t (staT x), .cp (staC s) 0] (.b (x.name == s.name)) := by
 rw [staT_C]
 unfold staC
 refine Sound.of tabOk Tryz.func127 (by kernel_rfl) rfl rfl ?_
 repeat' (first | refine wkt ?_ | refine wk ?_ | exact wkc | intro hc | refine wk2 ?_ ?_ | fail)
 all_goals
  refine RetK.pure rfl (Le.of_eq ?_) rfl
  refine congrArg (fun b => SV.t (T.v (Value.bool b))) ?_
  simp [hc]
theorem idxState_sound (fid : FuncId) (caps : List SV) (hcaps : unders 0 caps = true) (p : Sta → Bool) (l : List Sta) (hl : l.length ≤ 1000000000) (hp : ∀ d, Pure Tryz.prog fid (.t (staT d) :: caps) (.b (p d))) :
  Pure Tryz.prog 148 [.t (.sl 6 (l.map staT)), .fn fid caps] (.i (idxI p l)) := by
 have hml : (l.map staT).length = l.length := List.length_map _
 refine Sound.of tabOk Tryz.func148 (by kernel_rfl) rfl rfl ?_
 repeat' (first | refine wk ?_ | exact wkc | intro hc | refine wk2 ?_ ?_ | fail)
 refine TR.loopN l.length (fun k => (l.take k).all (fun x => !p x) = true) (fun k => [(0, .t (.sl 6 (l.map staT))), (1, .fn fid caps), (7, .i l.length), (8, .i k)]) (fun _ => []) rfl (fun k hlt ha => ?_) (fun ha => ?_) ⟨rfl, rfl, by rw [← hml]; rfl, rfl, trivial⟩
 ·have hx := at_map staT hlt
  have htk := take_at hlt
  have hat := idxI_at p l k hlt ha
  have hd := hp l[k]
  generalize l[k] = d at hx htk hat hd
  rw [staT_C] at hx hd
  have hu : unders 0 (.t (.ag (staC d)) :: caps) = true := by simp [unders, SV.under, hcaps]
  unfold staC at *
  repeat' (first | refine wk ?_ | exact wkc | intro hc | refine wk2 ?_ ?_ | (apply TO.callV hd; exact rfl; exact rfl; exact rfl; exact Les.refl _; exact hu; exact rfl) | fail)
  ·rw [hat hc]; exact wkr
  ·refine LoopK.nextN hlt ?_
   rw [htk, List.all_append, ha]
   simp [hc]
 ·rw [List.take_length] at ha
  rw [idxI_none p l ha]
  repeat' (first | refine wk ?_ | exact wkc | intro hc | refine wk2 ?_ ?_ | fail)
  exact wkr
theorem idxI_any {α : Type} (p : α → Bool) (l : List α) : decide (0 ≤ idxI p l) = l.any p := by
 rcases idxI_range p l with h | ⟨k, hk, h, hp⟩
 ·rw [h]
  symm
  cases ha : l.any p with
  | false => rfl
  | true =>
    exfalso
    have : ∀ l : List α, l.any p = true → 0 ≤ idxI p l := by
     intro l
     induction l with
     | nil => intro h; simp at h
     | cons x l ih =>
       intro h
       unfold idxI
       by_cases hx : p x = true
       ·rw [if_pos hx]; omega
       ·rw [if_neg hx]
        have := ih (by simpa [hx] using h)
        rw [if_neg (by omega)]; omega
    have := this l ha
    omega
 ·rw [h]
  have : l.any p = true := List.any_eq_true.2 ⟨_, List.getElem_mem hk, hp⟩
  rw [this]; simp
theorem conState_sound (fid : FuncId) (caps : List SV) (hcaps : unders 0 caps = true) (p : Sta → Bool) (l : List Sta) (hl : l.length ≤ 1000000000) (hp : ∀ d, Pure Tryz.prog fid (.t (staT d) :: caps) (.b (p d))) :
  Pure Tryz.prog 126 [.t (.sl 6 (l.map staT)), .fn fid caps] (.b (l.any p)) := by
 have hs := idxState_sound fid caps hcaps p l hl hp
 have ha := idxI_any p l
 generalize idxI p l = z at *
 have hu : unders 0 [.t (.sl 6 (l.map staT)), .fn fid caps] = true := by simp [unders, SV.under, hcaps]
 refine Sound.of tabOk Tryz.func126 (by kernel_rfl) rfl rfl ?_
 repeat' (first | refine wk ?_ | exact wkc | intro hc | refine wk2 ?_ ?_ | (apply TO.callV hs; exact rfl; exact rfl; exact rfl; exact Les.refl _; exact hu; exact rfl) | fail)
 all_goals
  refine RetK.pure rfl (Le.of_eq ?_) rfl
  refine congrArg (fun b => SV.t (T.v (Value.bool b))) ?_
  rw [← ha]; simp; omega
theorem indexS_sound (l : List Str) (hl : l.length ≤ 1000000000) (s : Str) : Pure Tryz.prog 174 [.t (.sl 1 (l.map T.s)), .s s] (.i (idxI (fun x => s == x) l)) := by
 have hml : (l.map T.s).length = l.length := List.length_map _
 refine Sound.of tabOk Tryz.func174 (by kernel_rfl) rfl rfl ?_
 repeat' (first | refine wk ?_ | exact wkc | intro hc | refine wk2 ?_ ?_ | fail)
 refine TR.loopN l.length (fun k => (l.take k).all (fun x => !(s == x)) = true) (fun k => [(0, .t (.sl 1 (l.map T.s))), (1, .s s), (7, .i l.length), (8, .i k)]) (fun _ => []) rfl (fun k hlt ha => ?_) (fun ha => ?_) ⟨rfl, rfl, by rw [← hml]; rfl, rfl, trivial⟩
 ·have hx := at_s hlt
  have htk := take_at hlt
  have hat := idxI_at (fun x => s == x) l k hlt ha
  generalize l[k] = d at hx htk hat
  repeat' (first | refine wk ?_ | exact wkc | intro hc | refine wk2 ?_ ?_ | fail)
  ·rw [hat (by simp [hc])]; exact wkr
  ·refine LoopK.nextN hlt ?_
   rw [htk, List.all_append, ha]
   simp [hc]
 ·rw [List.take_length] at ha
  rw [idxI_none _ l ha]
  repeat' (first | refine wk ?_ | exact wkc | intro hc | refine wk2 ?_ ?_ | fail)
  exact wkr
theorem containsS_sound (l : List Str) (hl : l.length ≤ 1000000000) (s : Str) : Pure Tryz.prog 154 [.t (.sl 1 (l.map T.s)), .s s] (.b (decide (s ∈ l))) := by
 have hs := indexS_sound l hl s
 have ha := idxI_any (fun x => s == x) l
 have hm : (l.any fun x => s == x) = decide (s ∈ l) := by
  rw [Bool.eq_iff_iff]; simp
 rw [hm] at ha
 generalize idxI (fun x => s == x) l = z at *
 refine Sound.of tabOk Tryz.func154 (by kernel_rfl) rfl rfl ?_
 repeat' (first | refine wk ?_ | exact wkc | intro hc | refine wk2 ?_ ?_ | refine wv hs ?_ | fail)
 all_goals
  refine RetK.pure rfl (Le.of_eq ?_) rfl
  refine congrArg (fun b => SV.t (T.v (Value.bool b))) ?_
  rw [← ha]; simp; omega
theorem alike1_sound (b : List Str) (hb : b.length ≤ 1000000000) (x : Str) : Pure Tryz.prog 153 [.s x, .cp [.sl 1 (b.map T.s)] 0] (.b (!decide (x ∈ b))) := by
 have hs := containsS_sound b hb x
 refine Sound.of tabOk Tryz.func153 (by kernel_rfl) rfl rfl ?_
 repeat' (first | refine wkt ?_ | refine wk ?_ | exact wkc | intro hc | refine wk2 ?_ ?_ | refine wb hs ?_ ?_ | fail)
 all_goals
  refine RetK.pure rfl (Le.of_eq ?_) rfl
  refine congrArg (fun b => SV.t (T.v (Value.bool b))) ?_
  rw [hc]
theorem idxS_sound (fid : FuncId) (caps : List SV) (hcaps : unders 0 caps = true) (p : Str → Bool) (l : List Str) (hl : l.length ≤ 1000000000) (hp : ∀ d, Pure Tryz.prog fid (.s d :: caps) (.b (p d))) :
  Pure Tryz.prog 173 [.t (.sl 1 (l.map T.s)), .fn fid caps] (.i (idxI p l)) := by
 have hml : (l.map T.s).length = l.length := List.length_map _
 refine Sound.of tabOk Tryz.func173 (by kernel_rfl) rfl rfl ?_
 repeat' (first | refine wk ?_ | exact wkc | intro hc | refine wk2 ?_ ?_ | fail)
 refine TR.loopN l.length (fun k => (l.take k).all (fun x => !p x) = true) (fun k => [(0, .t (.sl 1 (l.map T.s))), (1, .fn fid caps), (7, .i l.length), (8, .i k)]) (fun _ => []) rfl (fun k hlt ha => ?_) (fun ha => ?_) ⟨rfl, rfl, by rw [← hml]; rfl, rfl, trivial⟩
 ·have hx := at_s hlt
  have htk := take_at hlt
  have hat := idxI_at p l k hlt ha
  have hd := hp l[k]
  generalize l[k] = d at hx htk hat hd
  have hu : unders 0 (.s d :: caps) = true := by simp [unders, SV.under, hcaps]
  repeat' (first | refine wk ?_ | exact wkc | intro hc | refine wk2 ?_ ?_ | (apply TO.callV hd; exact rfl; exact rfl; exact rfl; exact Les.refl _; exact hu; exact rfl) | fail)
  ·rw [hat hc]; exact wkr
  ·refine LoopK.nextN hlt ?_
   rw [htk, List.all_append, ha]
   simp [hc]
 ·rw [List.take_length] at ha
  rw [idxI_none p l ha]
  repeat' (first | refine wk ?_ | exact wkc | intro hc | refine wk2 ?_ ?_ | fail)
  exact wkr
theorem conS_sound (fid : FuncId) (caps : List SV) (hcaps : unders 0 caps = true) (p : Str → Bool) (l : List Str) (hl : l.length ≤ 1000000000) (hp : ∀ d, Pure Tryz.prog fid (.s d :: caps) (.b (p d))) :
  Pure Tryz.prog 152 [.t (.sl 1 (l.map T.s)), .fn fid caps] (.b (l.any p)) := by
 have hs := idxS_sound fid caps hcaps p l hl hp
 have ha := idxI_any p l
 generalize idxI p l = z at *
 have hu : unders 0 [.t (.sl 1 (l.map T.s)), .fn fid caps] = true := by simp [unders, SV.under, hcaps]
 refine Sound.of tabOk Tryz.func152 (by kernel_rfl) rfl rfl ?_
 repeat' (first | refine wk ?_ | exact wkc | intro hc | refine wk2 ?_ ?_ | (apply TO.callV hs; exact rfl; exact rfl; exact rfl; exact Les.refl _; exact hu; exact rfl) | fail)
 all_goals
  refine RetK.pure rfl (Le.of_eq ?_) rfl
  refine congrArg (fun b => SV.t (T.v (Value.bool b))) ?_
  rw [← ha]; simp; omega
def alikeB (a b : List Str) : Bool := decide (a.length = b.length) && !(a.any fun x => !decide (x ∈ b))
theorem alike_sound (a b : List Str) (ha : a.length ≤ 1000000000) (hb : b.length ≤ 1000000000) : Pure Tryz.prog 129 [.t (.sl 1 (a.map T.s)), .t (.sl 1 (b.map T.s))] (.b (alikeB a b)) := by
 have hs := conS_sound 153 [.cp [.sl 1 (b.map T.s)] 0] rfl (fun x => !decide (x ∈ b)) a ha (fun x => alike1_sound b hb x)
 have m1 : (a.map T.s).length = a.length := List.length_map _
 have m2 : (b.map T.s).length = b.length := List.length_map _
 unfold alikeB
 generalize (a.any fun x => !decide (x ∈ b)) = z at *
 cases z
 all_goals
  refine Sound.of tabOk Tryz.func129 (by kernel_rfl) rfl rfl ?_
  repeat' (first | refine wkt ?_ | refine wk ?_ | exact wkc | intro hc | refine wk2 ?_ ?_ | (apply TO.callV hs; exact rfl; exact rfl; exact rfl; exact Les.refl _; exact rfl; exact rfl) | fail)
  all_goals
   refine RetK.pure rfl (Le.of_eq ?_) rfl
   refine congrArg (fun b => SV.t (T.v (Value.bool b))) ?_
   clear hs
   first
   | (simp; omega)
   | (rw [decide_eq_true (by omega)]; rfl)
   | (rw [decide_eq_false (by omega)]; rfl)
abbrev nameBs (up : SV) (b : Nat) : Heap := [setB [], setB [], .cells [up, .mp b, .mp (b + 1), nilM, nilS]]
theorem inner_nil (p : Prog) (n q : Int) (seen : List (Int × Str × Int)) :
  Sound Tryz.prog 76 [nilP] [lkB p n q, seenB seen] (fun r H' => r = .ret (.ref 4 0) ∧ H' = lkB p n q :: seenB seen :: nameBs nilP 2) := by
 refine Sound.of tabOk Tryz.func76 (by kernel_rfl) rfl rfl ?_
 refine wk ?_
 exact RetK.keep 5 rfl (Le.refl _) rfl rfl rfl rfl rfl ⟨rfl, rfl⟩
theorem inner_ref (p : Prog) (n q : Int) (seen : List (Int × Str × Int)) (h : Ch) :
  Sound Tryz.prog 76 [.ref h.id 0] (full p n q seen h) (fun r H' => r = .ret (.ref (h.N + 2) 0) ∧ H' = full p n q seen h ++ nameBs (.ref h.id 0) h.N) := by
 cases h
 case one a =>
  refine Sound.of tabOk Tryz.func76 (by kernel_rfl) rfl rfl ?_
  refine wk ?_
  exact RetK.keep 8 rfl (Le.refl _) rfl rfl rfl rfl rfl ⟨rfl, rfl⟩
 case c1 =>
  refine Sound.of tabOk Tryz.func76 (by kernel_rfl) rfl rfl ?_
  refine wk ?_
  exact RetK.keep 10 rfl (Le.refl _) rfl rfl rfl rfl rfl ⟨rfl, rfl⟩
 case c2 =>
  refine Sound.of tabOk Tryz.func76 (by kernel_rfl) rfl rfl ?_
  refine wk ?_
  exact RetK.keep 14 rfl (Le.refl _) rfl rfl rfl rfl rfl ⟨rfl, rfl⟩
 case c3 =>
  refine Sound.of tabOk Tryz.func76 (by kernel_rfl) rfl rfl ?_
  refine wk ?_
  exact RetK.keep 18 rfl (Le.refl _) rfl rfl rfl rfl rfl ⟨rfl, rfl⟩
 case c4 =>
  refine Sound.of tabOk Tryz.func76 (by kernel_rfl) rfl rfl ?_
  refine wk ?_
  exact RetK.keep 22 rfl (Le.refl _) rfl rfl rfl rfl rfl ⟨rfl, rfl⟩
abbrev cellS (l : List Str) : Blk := .cells ((l.map T.s).map .t)
theorem cell_at {l : List Str} {k : Nat} (h : k < l.length) : ((l.map T.s).map SV.t)[0 + k * 1]? = some (.s l[k]) := by simp [h]
def keepS (own : List Str) (l : List Str) : List Str := l.filter fun x => !decide (x ∈ own)
theorem keepS_le (own l : List Str) : (keepS own l).length ≤ l.length := List.length_filter_le _ _
theorem keepS_take {own l : List Str} {k : Nat} (h : k < l.length) : keepS own (l.take (k + 1)) = keepS own (l.take k) ++ (if l[k] ∈ own then [] else [l[k]]) := by
 unfold keepS
 rw [List.take_succ_eq_append_getElem h, List.filter_append]
 by_cases hm : l[k] ∈ own <;> simp [hm]
theorem keepS_all {own l : List Str} (h : l.all (fun x => !decide (x ∈ own)) = true) : keepS own l = l := by
 unfold keepS
 rw [List.filter_eq_self]
 intro x hx
 exact List.all_eq_true.1 h x hx
def midS (own l : List Str) (k : Nat) : List Str := keepS own (l.take k) ++ l.drop (keepS own (l.take k)).length
theorem midS_len (own l : List Str) (k : Nat) : (midS own l k).length = l.length := by
 unfold midS
 have h1 := keepS_le own (l.take k)
 have h2 : (l.take k).length ≤ l.length := by simp; omega
 simp; omega
theorem midS_at {own l : List Str} {k : Nat} (h : k < l.length) : (midS own l k)[k]? = some l[k] := by
 unfold midS
 have h1 := keepS_le own (l.take k)
 have h2 : (l.take k).length = k := by simp; omega
 rw [List.getElem?_append_right (by omega), List.getElem?_drop, show (keepS own (l.take k)).length + (k - (keepS own (l.take k)).length) = k from by omega]
 exact List.getElem?_eq_getElem h
theorem midS_in {own l : List Str} {k : Nat} (h : k < l.length) (hm : l[k] ∈ own) : midS own l (k + 1) = midS own l k := by
 unfold midS
 rw [keepS_take h, if_pos hm, List.append_nil]
theorem midS_out {own l : List Str} {k : Nat} (h : k < l.length) (hm : l[k] ∉ own) : midS own l (k + 1) = (midS own l k).set (keepS own (l.take k)).length l[k] := by
 have h1 := keepS_le own (l.take k)
 have h2 : (l.take k).length = k := by simp; omega
 unfold midS
 rw [keepS_take h, if_neg hm]
 generalize keepS own (l.take k) = K at *
 rw [List.set_append_right _ _ (Nat.le_refl _), Nat.sub_self]
 cases hd : l.drop K.length with
 | nil =>
   have := congrArg List.length hd
   simp at this; omega
 | cons y r =>
   rw [List.set_cons_zero]
   have hr : l.drop (K.length + 1) = r := by
    have := congrArg (List.drop 1) hd
    rw [List.drop_drop] at this
    simpa using this
   rw [List.length_append, List.length_singleton, hr]
   simp
theorem midS_first {own l : List Str} {k : Nat} (hk : k < l.length) (ha : (l.take k).all (fun x => !decide (x ∈ own)) = true) (hm : l[k] ∈ own) : midS own l (k + 1) = l ∧ (keepS own (l.take (k + 1))).length = k := by
 have h2 : (l.take k).length = k := by simp; omega
 unfold midS
 rw [keepS_take hk, if_pos hm, List.append_nil, keepS_all ha, h2]
 exact ⟨List.take_append_drop k l, rfl⟩
theorem cellU {k : Nat} {H0 : Heap} (h : blksUnder k H0 = true) (ts : List T) : blksUnder k (H0 ++ [.cells (ts.map .t)]) = true := blksUnder_append h (under_ts k ts)
theorem keepS_lt {own l : List Str} {k : Nat} (hk : k < l.length) (hm : l[k] ∈ own) : (keepS own l).length < l.length := by
 unfold keepS
 refine List.length_filter_lt_length_iff_exists.2 ⟨l[k], List.getElem_mem hk, by simpa using hm⟩
theorem splice_mid (own l : List Str) : splice (((midS own l l.length).map T.s).map SV.t) (0 + (keepS own l).length * 1) (List.replicate (l.length - (keepS own l).length) (.t (T.s []))) = ((keepS own l ++ List.replicate (l.length - (keepS own l).length) []).map T.s).map .t := by
 have h1 := keepS_le own l
 unfold splice midS
 rw [List.take_length]
 simp only [Nat.zero_add, Nat.mul_one, List.length_replicate]
 rw [← List.map_take, ← List.map_take, List.take_left, List.drop_of_length_le (by simp), List.append_nil]
 simp
abbrev out_c2 (p : Prog) (n q : Int) (seen : List (Int × Str × Int)) (i : List Str) (a : Lv) (b : Lv) : Heap := [lkB p n q, seenB seen, setB a.own, setB a.done, nmB nilP 2 (.mp 6) a, rowB a.defs, setB i, setB b.own, setB b.done, nmB (.ref 4 0) 7 nilM b, .dead, .cells [.ref 9 0]]
theorem del1_c2 (p : Prog) (n q : Int) (seen : List (Int × Str × Int)) (i : List Str) (a : Lv) (b : Lv) (hk : SetOk b.own) (x : Str) (hx : x.length ≤ 1000000000) :
  Sound Tryz.prog 151 [.s x, .ref 11 0] (out_c2 p n q seen i a b) (fun r H' => r = .ret (.b (decide (x ∈ b.own))) ∧ H' = out_c2 p n q seen i a b) := by
 refine Sound.of tabOk Tryz.func151 (by kernel_rfl) rfl rfl ?_
 repeat' (first | refine wkt ?_ | refine wka ?_ | refine wk ?_ | exact wkc | intro hc | refine wk2 ?_ ?_ | (apply TO.setGet; exact rfl; exact rfl; exact rfl; exact rfl; assumption; assumption) | (apply TO.nilGet; exact rfl; exact rfl; exact rfl; assumption) | fail | fail)
 all_goals exact retV rfl (bsv (by simp_all)) rfl rfl
theorem didx_c2 (p : Prog) (n q : Int) (seen : List (Int × Str × Int)) (i : List Str) (a : Lv) (b : Lv) (hk : SetOk b.own) (l : List Str) (hl : l.length ≤ 2000000000) (hs : ∀ x ∈ l, x.length ≤ 1000000000) :
  Sound Tryz.prog 173 [.ms 1 12 0 l.length, .fn 151 [.ref 11 0]] (out_c2 p n q seen i a b ++ [cellS l]) (fun r H' => r = .ret (.i (idxI (fun x => decide (x ∈ b.own)) l)) ∧ H' = out_c2 p n q seen i a b ++ [cellS l]) := by
 refine Sound.of tabOk Tryz.func173 (by kernel_rfl) rfl rfl ?_
 repeat' (first | refine wk ?_ | exact wkc | intro hc | refine wk2 ?_ ?_ | fail)
 refine TR.loopN l.length (fun k => (l.take k).all (fun x => !decide (x ∈ b.own)) = true) (fun k => [(0, .ms 1 12 0 l.length), (1, .fn 151 [.ref 11 0]), (7, .i l.length), (8, .i k)]) (fun _ => out_c2 p n q seen i a b ++ [cellS l]) rfl (fun k hlt ha => ?_) (fun ha => ?_)
 ·have hx := cell_at hlt
  have htk := take_at hlt
  have hat := idxI_at (fun x => decide (x ∈ b.own)) l k hlt ha
  have hd := del1_c2 p n q seen i a b hk l[k] (hs _ (List.getElem_mem hlt))
  generalize l[k] = d at hx htk hat hd
  repeat' (first | refine wk ?_ | exact wkc | intro hc | refine wk2 ?_ ?_ | (apply TO.indexAddr_ms tabOk; exact rfl; exact rfl; exact rfl; exact rfl; exact rfl; exact rfl; exact rfl; omega; omega) | (apply TO.load_ref tabOk; exact rfl; exact rfl; exact rfl; exact rfl; exact rfl; exact hx) | (apply TO.callDb 12 hd; exact rfl; exact rfl; exact rfl; exact Les.refl _; exact Nat.le_of_ble_eq_true rfl; exact rfl; exact rfl; exact rfl) | fail)
  ·rw [hat hc]; exact retV rfl rfl rfl (cellU rfl _)
  ·refine LoopK.nextN hlt ?_
   rw [htk, List.all_append, ha]
   simpa using hc
 ·rw [List.take_length] at ha
  rw [idxI_none _ l ha]
  repeat' (first | refine wk ?_ | exact wkc | intro hc | refine wk2 ?_ ?_ | fail)
  exact retV rfl rfl rfl (cellU rfl _)
theorem del_c2 (p : Prog) (n q : Int) (seen : List (Int × Str × Int)) (i : List Str) (a : Lv) (b : Lv) (hk : SetOk b.own) (l : List Str) (hl : l.length ≤ 2000000000) (hs : ∀ x ∈ l, x.length ≤ 1000000000) :
  Sound Tryz.prog 150 [.ms 1 12 0 l.length, .fn 151 [.ref 11 0]] (out_c2 p n q seen i a b ++ [cellS l])
   (fun r H' => r = .ret (.ms 1 12 0 (keepS b.own l).length) ∧ H' = out_c2 p n q seen i a b ++ [.cells (((keepS b.own l ++ List.replicate (l.length - (keepS b.own l).length) []).map T.s).map .t)]) := by
 have hd0 := didx_c2 p n q seen i a b hk l hl hs
 rcases idxI_range (fun x => decide (x ∈ b.own)) l with h | ⟨k0, hk0, h, hp⟩
 ·rw [h] at hd0
  have hall : l.all (fun x => !decide (x ∈ b.own)) = true := by
   have := idxI_any (fun x => decide (x ∈ b.own)) l
   rw [h] at this
   rw [List.all_eq_not_any_not]
   simpa using this
  rw [keepS_all hall, Nat.sub_self]
  simp only [List.replicate_zero, List.append_nil]
  refine Sound.of tabOk Tryz.func150 (by kernel_rfl) rfl rfl ?_
  repeat' (first | refine wk ?_ | exact wkc | intro hc | refine wk2 ?_ ?_ | (apply TO.callD 13 hd0; exact rfl; exact rfl; exact rfl; exact Les.refl _; exact rfl; exact rfl; exact rfl; exact cellU rfl _; exact rfl; exact rfl; exact cellU rfl _; exact forceL_self _) | fail)
  exact retV rfl rfl rfl (cellU rfl _)
 ·rw [h] at hd0
  have hin : l[k0] ∈ b.own := by simpa using hp
  have hall : (l.take k0).all (fun x => !decide (x ∈ b.own)) = true := by
   have : ∀ (l : List Str) (k : Nat), idxI (fun x => decide (x ∈ b.own)) l = k → (l.take k).all (fun x => !decide (x ∈ b.own)) = true := by
    intro l
    induction l with
    | nil => intro k _; simp
    | cons y l ih =>
      intro k hk
      unfold idxI at hk
      by_cases hy : decide (y ∈ b.own) = true
      ·rw [if_pos hy] at hk
       have : k = 0 := by omega
       subst this; rfl
      ·rw [if_neg hy] at hk
       split at hk
       ·omega
       ·obtain ⟨k', rfl⟩ : ∃ k', k = k' + 1 := ⟨k - 1, by omega⟩
        rw [List.take_succ_cons, List.all_cons, ih k' (by omega)]
        simpa using hy
   exact this l k0 h
  obtain ⟨f1, f2⟩ := midS_first hk0 hall hin
  have hlt1 := keepS_lt hk0 hin
  refine Sound.of tabOk Tryz.func150 (by kernel_rfl) rfl rfl ?_
  repeat' (first | refine wk ?_ | exact wkc | intro hc | refine wk2 ?_ ?_ | (apply TO.callD 13 hd0; exact rfl; exact rfl; exact rfl; exact Les.refl _; exact rfl; exact rfl; exact rfl; exact cellU rfl _; exact rfl; exact rfl; exact cellU rfl _; exact forceL_self _) | fail)
  refine TR.loopN (l.length - (k0 + 1)) (fun _ => True) (fun k => [(0, .ms 1 12 0 l.length), (1, .fn 151 [.ref 11 0]), (5, .i (keepS b.own (l.take (k0 + 1 + k))).length), (6, .i ((k0 + 1 + k : Nat) : Int))]) (fun k => out_c2 p n q seen i a b ++ [cellS (midS b.own l (k0 + 1 + k))]) trivial (fun k hlt _ => ?_) (fun _ => ?_) ⟨rfl, rfl, by rw [Nat.add_zero, f2]; rfl, rfl, trivial⟩ (by rw [Nat.add_zero, f1]; rfl)
  ·have hj : k0 + 1 + k < l.length := by omega
   have hkl := keepS_le b.own (l.take (k0 + 1 + k))
   have htl : (l.take (k0 + 1 + k)).length = k0 + 1 + k := by simp; omega
   have hml : (((midS b.own l (k0 + 1 + k)).map T.s).map SV.t).length = l.length := by rw [List.length_map, List.length_map, midS_len]
   have hx : (((midS b.own l (k0 + 1 + k)).map T.s).map SV.t)[0 + (k0 + 1 + k) * 1]? = some (.s l[k0 + 1 + k]) := by
    rw [Nat.zero_add, Nat.mul_one, List.getElem?_map, List.getElem?_map, midS_at hj]; rfl
   have hd := del1_c2 p n q seen i a b hk l[k0 + 1 + k] (hs _ (List.getElem_mem hj))
   have g1 := midS_in (own := b.own) hj
   have g2 := midS_out (own := b.own) hj
   have g3 := keepS_take (own := b.own) hj
   generalize l[k0 + 1 + k] = x at *
   generalize keepS b.own (l.take (k0 + 1 + k)) = KS at *
   generalize midS b.own l (k0 + 1 + k) = MS at *
   repeat' (first | refine wk ?_ | exact wkc | intro hc | refine wk2 ?_ ?_ | (apply TO.indexAddr_ms tabOk; exact rfl; exact rfl; exact rfl; exact rfl; exact rfl; exact rfl; exact rfl; omega; omega) | (apply TO.load_ref tabOk; exact rfl; exact rfl; exact rfl; exact rfl; exact rfl; exact hx) | (apply TO.callDb 12 hd; exact rfl; exact rfl; exact rfl; exact Les.refl _; exact Nat.le_of_ble_eq_true rfl; exact rfl; exact rfl; exact rfl) | (apply TO.store1 tabOk; exact rfl; exact rfl; exact rfl; exact rfl; exact rfl; exact rfl; exact rfl; (show 0 + KS.length * 1 < _; rw [hml]; omega); exact rfl) | fail)
   ·have hxo : x ∈ b.own := by simpa using hc
    rw [if_pos hxo, List.append_nil] at g3
    refine LoopK.nextN hlt trivial ⟨rfl, rfl, ?_, rfl, trivial⟩ ?_
    ·rw [show keepS b.own (l.take (k0 + 1 + (k + 1))) = KS from g3]; rfl
    ·rw [show midS b.own l (k0 + 1 + (k + 1)) = MS from g1 hxo]
   ·have hxo : x ∉ b.own := by simpa using hc
    rw [if_neg hxo] at g3
    refine LoopK.nextN hlt trivial ⟨rfl, rfl, ?_, rfl, trivial⟩ ?_
    ·rw [show keepS b.own (l.take (k0 + 1 + (k + 1))) = KS ++ [x] from g3, List.length_append]; rfl
    ·rw [show midS b.own l (k0 + 1 + (k + 1)) = MS.set KS.length x from g2 hxo]
     show _ = out_c2 p n q seen i a b ++ [cellS (MS.set KS.length x)]
     unfold cellS
     rw [List.map_set, List.map_set]
     show _ = out_c2 p n q seen i a b ++ [Blk.cells (((MS.map T.s).map SV.t).set KS.length (.s x))]
     conv => rhs; rw [show KS.length = 0 + KS.length * 1 from by omega]
     rfl
  ·have hll : k0 + 1 + (l.length - (k0 + 1)) = l.length := by omega
   have hsp := splice_mid b.own l
   have hml : (((midS b.own l l.length).map T.s).map SV.t).length = l.length := by rw [List.length_map, List.length_map, midS_len]
   rw [hll, List.take_length]
   generalize keepS b.own l = KS at *
   generalize midS b.own l l.length = MS at *
   repeat' (first | refine wk ?_ | exact wkc | intro hc | refine wk2 ?_ ?_ | (apply TO.slice_mslo tabOk; exact rfl; exact rfl; exact rfl; exact rfl; exact rfl; exact rfl; exact rfl; omega) | (apply TO.slice_ms tabOk; exact rfl; exact rfl; exact rfl; exact rfl; exact rfl; exact rfl; omega) | (apply TO.clear1 tabOk; exact rfl; exact rfl; exact rfl; exact rfl; exact rfl; exact rfl; exact rfl; omega; (show 0 + KS.length * 1 + (l.length - KS.length) ≤ _; rw [hml]; omega); exact rfl) | fail)
   refine RetK.keep 13 (v := .ms 1 12 0 KS.length) rfl (Le.refl _) rfl rfl rfl (H' := out_c2 p n q seen i a b ++ [.cells (((KS ++ List.replicate (l.length - KS.length) []).map T.s).map .t)]) ?_ (cellU rfl _) ⟨rfl, rfl⟩
   rw [← hsp]; rfl
abbrev out_c3 (p : Prog) (n q : Int) (seen : List (Int × Str × Int)) (i : List Str) (a : Lv) (b : Lv) (c : Lv) : Heap := [lkB p n q, seenB seen, setB a.own, setB a.done, nmB nilP 2 (.mp 6) a, rowB a.defs, setB i, setB b.own, setB b.done, nmB (.ref 4 0) 7 nilM b, rowB b.defs, setB c.own, setB c.done, nmB (.ref 9 0) 11 nilM c, .dead, .cells [.ref 13 0]]
theorem del1_c3 (p : Prog) (n q : Int) (seen : List (Int × Str × Int)) (i : List Str) (a : Lv) (b : Lv) (c : Lv) (hk : SetOk c.own) (x : Str) (hx : x.length ≤ 1000000000) :
  Sound Tryz.prog 151 [.s x, .ref 15 0] (out_c3 p n q seen i a b c) (fun r H' => r = .ret (.b (decide (x ∈ c.own))) ∧ H' = out_c3 p n q seen i a b c) := by
 refine Sound.of tabOk Tryz.func151 (by kernel_rfl) rfl rfl ?_
 repeat' (first | refine wkt ?_ | refine wka ?_ | refine wk ?_ | exact wkc | intro hc | refine wk2 ?_ ?_ | (apply TO.setGet; exact rfl; exact rfl; exact rfl; exact rfl; assumption; assumption) | (apply TO.nilGet; exact rfl; exact rfl; exact rfl; assumption) | fail | fail)
 all_goals exact retV rfl (bsv (by simp_all)) rfl rfl
theorem didx_c3 (p : Prog) (n q : Int) (seen : List (Int × Str × Int)) (i : List Str) (a : Lv) (b : Lv) (c : Lv) (hk : SetOk c.own) (l : List Str) (hl : l.length ≤ 2000000000) (hs : ∀ x ∈ l, x.length ≤ 1000000000) :
  Sound Tryz.prog 173 [.ms 1 16 0 l.length, .fn 151 [.ref 15 0]] (out_c3 p n q seen i a b c ++ [cellS l]) (fun r H' => r = .ret (.i (idxI (fun x => decide (x ∈ c.own)) l)) ∧ H' = out_c3 p n q seen i a b c ++ [cellS l]) := by
 refine Sound.of tabOk Tryz.func173 (by kernel_rfl) rfl rfl ?_
 repeat' (first | refine wk ?_ | exact wkc | intro hc | refine wk2 ?_ ?_ | fail)
 refine TR.loopN l.length (fun k => (l.take k).all (fun x => !decide (x ∈ c.own)) = true) (fun k => [(0, .ms 1 16 0 l.length), (1, .fn 151 [.ref 15 0]), (7, .i l.length), (8, .i k)]) (fun _ => out_c3 p n q seen i a b c ++ [cellS l]) rfl (fun k hlt ha => ?_) (fun ha => ?_)
 ·have hx := cell_at hlt
  have htk := take_at hlt
  have hat := idxI_at (fun x => decide (x ∈ c.own)) l k hlt ha
  have hd := del1_c3 p n q seen i a b c hk l[k] (hs _ (List.getElem_mem hlt))
  generalize l[k] = d at hx htk hat hd
  repeat' (first | refine wk ?_ | exact wkc | intro hc | refine wk2 ?_ ?_ | (apply TO.indexAddr_ms tabOk; exact rfl; exact rfl; exact rfl; exact rfl; exact rfl; exact rfl; exact rfl; omega; omega) | (apply TO.load_ref tabOk; exact rfl; exact rfl; exact rfl; exact rfl; exact rfl; exact hx) | (apply TO.callDb 16 hd; exact rfl; exact rfl; exact rfl; exact Les.refl _; exact Nat.le_of_ble_eq_true rfl; exact rfl; exact rfl; exact rfl) | fail)
  ·rw [hat hc]; exact retV rfl rfl rfl (cellU rfl _)
  ·refine LoopK.nextN hlt ?_
   rw [htk, List.all_append, ha]
   simpa using hc
 ·rw [List.take_length] at ha
  rw [idxI_none _ l ha]
  repeat' (first | refine wk ?_ | exact wkc | intro hc | refine wk2 ?_ ?_ | fail)
  exact retV rfl rfl rfl (cellU rfl _)
theorem del_c3 (p : Prog) (n q : Int) (seen : List (Int × Str × Int)) (i : List Str) (a : Lv) (b : Lv) (c : Lv) (hk : SetOk c.own) (l : List Str) (hl : l.length ≤ 2000000000) (hs : ∀ x ∈ l, x.length ≤ 1000000000) :
  Sound Tryz.prog 150 [.ms 1 16 0 l.length, .fn 151 [.ref 15 0]] (out_c3 p n q seen i a b c ++ [cellS l])
   (fun r H' => r = .ret (.ms 1 16 0 (keepS c.own l).length) ∧ H' = out_c3 p n q seen i a b c ++ [.cells (((keepS c.own l ++ List.replicate (l.length - (keepS c.own l).length) []).map T.s).map .t)]) := by
 have hd0 := didx_c3 p n q seen i a b c hk l hl hs
 rcases idxI_range (fun x => decide (x ∈ c.own)) l with h | ⟨k0, hk0, h, hp⟩
 ·rw [h] at hd0
  have hall : l.all (fun x => !decide (x ∈ c.own)) = true := by
   have := idxI_any (fun x => decide (x ∈ c.own)) l
   rw [h] at this
   rw [List.all_eq_not_any_not]
   simpa using this
  rw [keepS_all hall, Nat.sub_self]
  simp only [List.replicate_zero, List.append_nil]
  refine Sound.of tabOk Tryz.func150 (by kernel_rfl) rfl rfl ?_
  repeat' (first | refine wk ?_ | exact wkc | intro hc | refine wk2 ?_ ?_ | (apply TO.callD 17 hd0; exact rfl; exact rfl; exact rfl; exact Les.refl _; exact rfl; exact rfl; exact rfl; exact cellU rfl _; exact rfl; exact rfl; exact cellU rfl _; exact forceL_self _) | fail)
  exact retV rfl rfl rfl (cellU rfl _)
 ·rw [h] at hd0
  have hin : l[k0] ∈ c.own := by simpa using hp
  have hall : (l.take k0).all (fun x => !decide (x ∈ c.own)) = true := by
   have : ∀ (l : List Str) (k : Nat), idxI (fun x => decide (x ∈ c.own)) l = k → (l.take k).all (fun x => !decide (x ∈ c.own)) = true := by
    intro l
    induction l with
    | nil => intro k _; simp
    | cons y l ih =>
      intro k hk
      unfold idxI at hk
      by_cases hy : decide (y ∈ c.own) = true
      ·rw [if_pos hy] at hk
       have : k = 0 := by omega
       subst this; rfl
      ·rw [if_neg hy] at hk
       split at hk
       ·omega
       ·obtain ⟨k', rfl⟩ : ∃ k', k = k' + 1 := ⟨k - 1, by omega⟩
        rw [List.take_succ_cons, List.all_cons, ih k' (by omega)]
        simpa using hy
   exact this l k0 h
  obtain ⟨f1, f2⟩ := midS_first hk0 hall hin
  have hlt1 := keepS_lt hk0 hin
  refine Sound.of tabOk Tryz.func150 (by kernel_rfl) rfl rfl ?_
  repeat' (first | refine wk ?_ | exact wkc | intro hc | refine wk2 ?_ ?_ | (apply TO.callD 17 hd0; exact rfl; exact rfl; exact rfl; exact Les.refl _; exact rfl; exact rfl; exact rfl; exact cellU rfl _; exact rfl; exact rfl; exact cellU rfl _; exact forceL_self _) | fail)
  refine TR.loopN (l.length - (k0 + 1)) (fun _ => True) (fun k => [(0, .ms 1 16 0 l.length), (1, .fn 151 [.ref 15 0]), (5, .i (keepS c.own (l.take (k0 + 1 + k))).length), (6, .i ((k0 + 1 + k : Nat) : Int))]) (fun k => out_c3 p n q seen i a b c ++ [cellS (midS c.own l (k0 + 1 + k))]) trivial (fun k hlt _ => ?_) (fun _ => ?_) ⟨rfl, rfl, by rw [Nat.add_zero, f2]; rfl, rfl, trivial⟩ (by rw [Nat.add_zero, f1]; rfl)
  ·have hj : k0 + 1 + k < l.length := by omega
   have hkl := keepS_le c.own (l.take (k0 + 1 + k))
   have htl : (l.take (k0 + 1 + k)).length = k0 + 1 + k := by simp; omega
   have hml : (((midS c.own l (k0 + 1 + k)).map T.s).map SV.t).length = l.length := by rw [List.length_map, List.length_map, midS_len]
   have hx : (((midS c.own l (k0 + 1 + k)).map T.s).map SV.t)[0 + (k0 + 1 + k) * 1]? = some (.s l[k0 + 1 + k]) := by
    rw [Nat.zero_add, Nat.mul_one, List.getElem?_map, List.getElem?_map, midS_at hj]; rfl
   have hd := del1_c3 p n q seen i a b c hk l[k0 + 1 + k] (hs _ (List.getElem_mem hj))
   have g1 := midS_in (own := c.own) hj
   have g2 := midS_out (own := c.own) hj
   have g3 := keepS_take (own := c.own) hj
   generalize l[k0 + 1 + k] = x at *
   generalize keepS c.own (l.take (k0 + 1 + k)) = KS at *
   generalize midS c.own l (k0 + 1 + k) = MS at *
   repeat' (first | refine wk ?_ | exact wkc | intro hc | refine wk2 ?_ ?_ | (apply TO.indexAddr_ms tabOk; exact rfl; exact rfl; exact rfl; exact rfl; exact rfl; exact rfl; exact rfl; omega; omega) | (apply TO.load_ref tabOk; exact rfl; exact rfl; exact rfl; exact rfl; exact rfl; exact hx) | (apply TO.callDb 16 hd; exact rfl; exact rfl; exact rfl; exact Les.refl _; exact Nat.le_of_ble_eq_true rfl; exact rfl; exact rfl; exact rfl) | (apply TO.store1 tabOk; exact rfl; exact rfl; exact rfl; exact rfl; exact rfl; exact rfl; exact rfl; (show 0 + KS.length * 1 < _; rw [hml]; omega); exact rfl) | fail)
   ·have hxo : x ∈ c.own := by simpa using hc
    rw [if_pos hxo, List.append_nil] at g3
    refine LoopK.nextN hlt trivial ⟨rfl, rfl, ?_, rfl, trivial⟩ ?_
    ·rw [show keepS c.own (l.take (k0 + 1 + (k + 1))) = KS from g3]; rfl
    ·rw [show midS c.own l (k0 + 1 + (k + 1)) = MS from g1 hxo]
   ·have hxo : x ∉ c.own := by simpa using hc
    rw [if_neg hxo] at g3
    refine LoopK.nextN hlt trivial ⟨rfl, rfl, ?_, rfl, trivial⟩ ?_
    ·rw [show keepS c.own (l.take (k0 + 1 + (k + 1))) = KS ++ [x] from g3, List.length_append]; rfl
    ·rw [show midS c.own l (k0 + 1 + (k + 1)) = MS.set KS.length x from g2 hxo]
     show _ = out_c3 p n q seen i a b c ++ [cellS (MS.set KS.length x)]
     unfold cellS
     rw [List.map_set, List.map_set]
     show _ = out_c3 p n q seen i a b c ++ [Blk.cells (((MS.map T.s).map SV.t).set KS.length (.s x))]
     conv => rhs; rw [show KS.length = 0 + KS.length * 1 from by omega]
     rfl
  ·have hll : k0 + 1 + (l.length - (k0 + 1)) = l.length := by omega
   have hsp := splice_mid c.own l
   have hml : (((midS c.own l l.length).map T.s).map SV.t).length = l.length := by rw [List.length_map, List.length_map, midS_len]
   rw [hll, List.take_length]
   generalize keepS c.own l = KS at *
   generalize midS c.own l l.length = MS at *
   repeat' (first | refine wk ?_ | exact wkc | intro hc | refine wk2 ?_ ?_ | (apply TO.slice_mslo tabOk; exact rfl; exact rfl; exact rfl; exact rfl; exact rfl; exact rfl; exact rfl; omega) | (apply TO.slice_ms tabOk; exact rfl; exact rfl; exact rfl; exact rfl; exact rfl; exact rfl; omega) | (apply TO.clear1 tabOk; exact rfl; exact rfl; exact rfl; exact rfl; exact rfl; exact rfl; exact rfl; omega; (show 0 + KS.length * 1 + (l.length - KS.length) ≤ _; rw [hml]; omega); exact rfl) | fail)
   refine RetK.keep 17 (v := .ms 1 16 0 KS.length) rfl (Le.refl _) rfl rfl rfl (H' := out_c3 p n q seen i a b c ++ [.cells (((KS ++ List.replicate (l.length - KS.length) []).map T.s).map .t)]) ?_ (cellU rfl _) ⟨rfl, rfl⟩
   rw [← hsp]; rfl
abbrev out_c4 (p : Prog) (n q : Int) (seen : List (Int × Str × Int)) (i : List Str) (a : Lv) (b : Lv) (c : Lv) (d : Lv) : Heap := [lkB p n q, seenB seen, setB a.own, setB a.done, nmB nilP 2 (.mp 6) a, rowB a.defs, setB i, setB b.own, setB b.done, nmB (.ref 4 0) 7 nilM b, rowB b.defs, setB c.own, setB c.done, nmB (.ref 9 0) 11 nilM c, rowB c.defs, setB d.own, setB d.done, nmB (.ref 13 0) 15 nilM d, .dead, .cells [.ref 17 0]]
theorem del1_c4 (p : Prog) (n q : Int) (seen : List (Int × Str × Int)) (i : List Str) (a : Lv) (b : Lv) (c : Lv) (d : Lv) (hk : SetOk d.own) (x : Str) (hx : x.length ≤ 1000000000) :
  Sound Tryz.prog 151 [.s x, .ref 19 0] (out_c4 p n q seen i a b c d) (fun r H' => r = .ret (.b (decide (x ∈ d.own))) ∧ H' = out_c4 p n q seen i a b c d) := by
 refine Sound.of tabOk Tryz.func151 (by kernel_rfl) rfl rfl ?_
 repeat' (first | refine wkt ?_ | refine wka ?_ | refine wk ?_ | exact wkc | intro hc | refine wk2 ?_ ?_ | (apply TO.setGet; exact rfl; exact rfl; exact rfl; exact rfl; assumption; assumption) | (apply TO.nilGet; exact rfl; exact rfl; exact rfl; assumption) | fail | fail)
 all_goals exact retV rfl (bsv (by simp_all)) rfl rfl
theorem didx_c4 (p : Prog) (n q : Int) (seen : List (Int × Str × Int)) (i : List Str) (a : Lv) (b : Lv) (c : Lv) (d : Lv) (hk : SetOk d.own) (l : List Str) (hl : l.length ≤ 2000000000) (hs : ∀ x ∈ l, x.length ≤ 1000000000) :
  Sound Tryz.prog 173 [.ms 1 20 0 l.length, .fn 151 [.ref 19 0]] (out_c4 p n q seen i a b c d ++ [cellS l]) (fun r H' => r = .ret (.i (idxI (fun x => decide (x ∈ d.own)) l)) ∧ H' = out_c4 p n q seen i a b c d ++ [cellS l]) := by
 refine Sound.of tabOk Tryz.func173 (by kernel_rfl) rfl rfl ?_
 repeat' (first | refine wk ?_ | exact wkc | intro hc | refine wk2 ?_ ?_ | fail)
 refine TR.loopN l.length (fun k => (l.take k).all (fun x => !decide (x ∈ d.own)) = true) (fun k => [(0, .ms 1 20 0 l.length), (1, .fn 151 [.ref 19 0]), (7, .i l.length), (8, .i k)]) (fun _ => out_c4 p n q seen i a b c d ++ [cellS l]) rfl (fun k hlt ha => ?_) (fun ha => ?_)
 ·have hx := cell_at hlt
  have htk := take_at hlt
  have hat := idxI_at (fun x => decide (x ∈ d.own)) l k hlt ha
  have hd := del1_c4 p n q seen i a b c d hk l[k] (hs _ (List.getElem_mem hlt))
  generalize l[k] = d at hx htk hat hd
  repeat' (first | refine wk ?_ | exact wkc | intro hc | refine wk2 ?_ ?_ | (apply TO.indexAddr_ms tabOk; exact rfl; exact rfl; exact rfl; exact rfl; exact rfl; exact rfl; exact rfl; omega; omega) | (apply TO.load_ref tabOk; exact rfl; exact rfl; exact rfl; exact rfl; exact rfl; exact hx) | (apply TO.callDb 20 hd; exact rfl; exact rfl; exact rfl; exact Les.refl _; exact Nat.le_of_ble_eq_true rfl; exact rfl; exact rfl; exact rfl) | fail)
  ·rw [hat hc]; exact retV rfl rfl rfl (cellU rfl _)
  ·refine LoopK.nextN hlt ?_
   rw [htk, List.all_append, ha]
   simpa using hc
 ·rw [List.take_length] at ha
  rw [idxI_none _ l ha]
  repeat' (first | refine wk ?_ | exact wkc | intro hc | refine wk2 ?_ ?_ | fail)
  exact retV rfl rfl rfl (cellU rfl _)
theorem del_c4 (p : Prog) (n q : Int) (seen : List (Int × Str × Int)) (i : List Str) (a : Lv) (b : Lv) (c : Lv) (d : Lv) (hk : SetOk d.own) (l : List Str) (hl : l.length ≤ 2000000000) (hs : ∀ x ∈ l, x.length ≤ 1000000000) :
  Sound Tryz.prog 150 [.ms 1 20 0 l.length, .fn 151 [.ref 19 0]] (out_c4 p n q seen i a b c d ++ [cellS l])
   (fun r H' => r = .ret (.ms 1 20 0 (keepS d.own l).length) ∧ H' = out_c4 p n q seen i a b c d ++ [.cells (((keepS d.own l ++ List.replicate (l.length - (keepS d.own l).length) []).map T.s).map .t)]) := by
 have hd0 := didx_c4 p n q seen i a b c d hk l hl hs
 rcases idxI_range (fun x => decide (x ∈ d.own)) l with h | ⟨k0, hk0, h, hp⟩
 ·rw [h] at hd0
  have hall : l.all (fun x => !decide (x ∈ d.own)) = true := by
   have := idxI_any (fun x => decide (x ∈ d.own)) l
   rw [h] at this
   rw [List.all_eq_not_any_not]
   simpa using this
  rw [keepS_all hall, Nat.sub_self]
  simp only [List.replicate_zero, List.append_nil]
  refine Sound.of tabOk Tryz.func150 (by kernel_rfl) rfl rfl ?_
  repeat' (first | refine wk ?_ | exact wkc | intro hc | refine wk2 ?_ ?_ | (apply TO.callD 21 hd0; exact rfl; exact rfl; exact rfl; exact Les.refl _; exact rfl; exact rfl; exact rfl; exact cellU rfl _; exact rfl; exact rfl; exact cellU rfl _; exact forceL_self _) | fail)
  exact retV rfl rfl rfl (cellU rfl _)
 ·rw [h] at hd0
  have hin : l[k0] ∈ d.own := by simpa using hp
  have hall : (l.take k0).all (fun x => !decide (x ∈ d.own)) = true := by
   have : ∀ (l : List Str) (k : Nat), idxI (fun x => decide (x ∈ d.own)) l = k → (l.take k).all (fun x => !decide (x ∈ d.own)) = true := by
    intro l
    induction l with
    | nil => intro k _; simp
    | cons y l ih =>
      intro k hk
      unfold idxI at hk
      by_cases hy : decide (y ∈ d.own) = true
      ·rw [if_pos hy] at hk
       have : k = 0 := by omega
       subst this; rfl
      ·rw [if_neg hy] at hk
       split at hk
       ·omega
       ·obtain ⟨k', rfl⟩ : ∃ k', k = k' + 1 := ⟨k - 1, by omega⟩
        rw [List.take_succ_cons, List.all_cons, ih k' (by omega)]
        simpa using hy
   exact this l k0 h
  obtain ⟨f1, f2⟩ := midS_first hk0 hall hin
  have hlt1 := keepS_lt hk0 hin
  refine Sound.of tabOk Tryz.func150 (by kernel_rfl) rfl rfl ?_
  repeat' (first | refine wk ?_ | exact wkc | intro hc | refine wk2 ?_ ?_ | (apply TO.callD 21 hd0; exact rfl; exact rfl; exact rfl; exact Les.refl _; exact rfl; exact rfl; exact rfl; exact cellU rfl _; exact rfl; exact rfl; exact cellU rfl _; exact forceL_self _) | fail)
  refine TR.loopN (l.length - (k0 + 1)) (fun _ => True) (fun k => [(0, .ms 1 20 0 l.length), (1, .fn 151 [.ref 19 0]), (5, .i (keepS d.own (l.take (k0 + 1 + k))).length), (6, .i ((k0 + 1 + k : Nat) : Int))]) (fun k => out_c4 p n q seen i a b c d ++ [cellS (midS d.own l (k0 + 1 + k))]) trivial (fun k hlt _ => ?_) (fun _ => ?_) ⟨rfl, rfl, by rw [Nat.add_zero, f2]; rfl, rfl, trivial⟩ (by rw [Nat.add_zero, f1]; rfl)
  ·have hj : k0 + 1 + k < l.length := by omega
   have hkl := keepS_le d.own (l.take (k0 + 1 + k))
   have htl : (l.take (k0 + 1 + k)).length = k0 + 1 + k := by simp; omega
   have hml : (((midS d.own l (k0 + 1 + k)).map T.s).map SV.t).length = l.length := by rw [List.length_map, List.length_map, midS_len]
   have hx : (((midS d.own l (k0 + 1 + k)).map T.s).map SV.t)[0 + (k0 + 1 + k) * 1]? = some (.s l[k0 + 1 + k]) := by
    rw [Nat.zero_add, Nat.mul_one, List.getElem?_map, List.getElem?_map, midS_at hj]; rfl
   have hd := del1_c4 p n q seen i a b c d hk l[k0 + 1 + k] (hs _ (List.getElem_mem hj))
   have g1 := midS_in (own := d.own) hj
   have g2 := midS_out (own := d.own) hj
   have g3 := keepS_take (own := d.own) hj
   generalize l[k0 + 1 + k] = x at *
   generalize keepS d.own (l.take (k0 + 1 + k)) = KS at *
   generalize midS d.own l (k0 + 1 + k) = MS at *
   repeat' (first | refine wk ?_ | exact wkc | intro hc | refine wk2 ?_ ?_ | (apply TO.indexAddr_ms tabOk; exact rfl; exact rfl; exact rfl; exact rfl; exact rfl; exact rfl; exact rfl; omega; omega) | (apply TO.load_ref tabOk; exact rfl; exact rfl; exact rfl; exact rfl; exact rfl; exact hx) | (apply TO.callDb 20 hd; exact rfl; exact rfl; exact rfl; exact Les.refl _; exact Nat.le_of_ble_eq_true rfl; exact rfl; exact rfl; exact rfl) | (apply TO.store1 tabOk; exact rfl; exact rfl; exact rfl; exact rfl; exact rfl; exact rfl; exact rfl; (show 0 + KS.length * 1 < _; rw [hml]; omega); exact rfl) | fail)
   ·have hxo : x ∈ d.own := by simpa using hc
    rw [if_pos hxo, List.append_nil] at g3
    refine LoopK.nextN hlt trivial ⟨rfl, rfl, ?_, rfl, trivial⟩ ?_
    ·rw [show keepS d.own (l.take (k0 + 1 + (k + 1))) = KS from g3]; rfl
    ·rw [show midS d.own l (k0 + 1 + (k + 1)) = MS from g1 hxo]
   ·have hxo : x ∉ d.own := by simpa using hc
    rw [if_neg hxo] at g3
    refine LoopK.nextN hlt trivial ⟨rfl, rfl, ?_, rfl, trivial⟩ ?_
    ·rw [show keepS d.own (l.take (k0 + 1 + (k + 1))) = KS ++ [x] from g3, List.length_append]; rfl
    ·rw [show midS d.own l (k0 + 1 + (k + 1)) = MS.set KS.length x from g2 hxo]
     show _ = out_c4 p n q seen i a b c d ++ [cellS (MS.set KS.length x)]
     unfold cellS
     rw [List.map_set, List.map_set]
     show _ = out_c4 p n q seen i a b c d ++ [Blk.cells (((MS.map T.s).map SV.t).set KS.length (.s x))]
     conv => rhs; rw [show KS.length = 0 + KS.length * 1 from by omega]
     rfl
  ·have hll : k0 + 1 + (l.length - (k0 + 1)) = l.length := by omega
   have hsp := splice_mid d.own l
   have hml : (((midS d.own l l.length).map T.s).map SV.t).length = l.length := by rw [List.length_map, List.length_map, midS_len]
   rw [hll, List.take_length]
   generalize keepS d.own l = KS at *
   generalize midS d.own l l.length = MS at *
   repeat' (first | refine wk ?_ | exact wkc | intro hc | refine wk2 ?_ ?_ | (apply TO.slice_mslo tabOk; exact rfl; exact rfl; exact rfl; exact rfl; exact rfl; exact rfl; exact rfl; omega) | (apply TO.slice_ms tabOk; exact rfl; exact rfl; exact rfl; exact rfl; exact rfl; exact rfl; omega) | (apply TO.clear1 tabOk; exact rfl; exact rfl; exact rfl; exact rfl; exact rfl; exact rfl; exact rfl; omega; (show 0 + KS.length * 1 + (l.length - KS.length) ≤ _; rw [hml]; omega); exact rfl) | fail)
   refine RetK.keep 21 (v := .ms 1 20 0 KS.length) rfl (Le.refl _) rfl rfl rfl (H' := out_c4 p n q seen i a b c d ++ [.cells (((KS ++ List.replicate (l.length - KS.length) []).map T.s).map .t)]) ?_ (cellU rfl _) ⟨rfl, rfl⟩
   rw [← hsp]; rfl
end Go.Proofs.YtonjiabmcbdhdaaGreat
