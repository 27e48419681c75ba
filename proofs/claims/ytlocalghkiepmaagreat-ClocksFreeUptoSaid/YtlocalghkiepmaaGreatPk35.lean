import Derived.Test.YtlocalghkiepmaaGreatPk7
import Derived.Test.YtlocalghkiepmaaGreatPk15
import Derived.Test.YtlocalghkiepmaaGreatPk26
import Derived.Test.YtlocalghkiepmaaGreatPk34
set_option linter.unusedSimpArgs false
set_option linter.unusedVariables false
namespace Go.Proofs.YtlocalghkiepmaaGreat
open Go Go.TL
attribute [local irreducible] TR TO Then InBlock RetK Sound LoopK Kf GG ThenL
def onCs (l : List OnC) : List T := ((l.map onT).map T.cells).flatten
theorem onCs_len (l : List OnC) : (onCs l).length = l.length * 3 := by
 have := (flat_cells (sz := 3) (l.map onT) (fun e he => by obtain ⟨d, _, rfl⟩ := List.mem_map.1 he; rfl)).1
 rw [List.length_map] at this
 exact this
theorem onCs_append (a b : List OnC) : onCs (a ++ b) = onCs a ++ onCs b := by simp [onCs]
def zOn : List T := [.s [], .i 0, .i 0]
theorem longer_sound (ck : List OnC) (hck : ck.length ≤ 1000000000) (o : OnC) : Pure Tryz.prog 95 [.t (onsT ck), .t (onT o)] (.t (onsT (ck ++ [o]))) := by
 have m1 : (ck.map onT).length = ck.length := List.length_map _
 have e1 : splice (zerosOf zOn ((ck.map onT).length + 1)) 0 ((((ck.map onT).map T.cells).flatten).map .t) = mixC (onCs ck) zOn 1 := by
  have e := mixC_splice [] (onCs ck) zOn (ck.length + 1) ck.length 0 (by omega) rfl (onCs_len _)
  rw [m1, show zerosOf zOn (ck.length + 1) = mixC [] zOn (ck.length + 1) by simp [mixC]]
  refine e.trans ?_
  rw [List.nil_append, show ck.length + 1 - ck.length = 1 by omega]
 have e2 : splice (mixC (onCs ck) zOn 1) (0 + (ck.map onT).length * 3) (((([.ag [.s o.name, T.n o.t, T.n o.tag]]).map T.cells).flatten).map .t) = (onCs (ck ++ [o])).map .t := by
  have e := mixC_splice (onCs ck) (onCs [o]) zOn 1 1 (0 + (ck.map onT).length * 3) (Nat.le_refl _) (by rw [onCs_len, m1]; omega) (onCs_len _)
  refine e.trans ?_
  rw [Nat.sub_self, mixC_zero, onCs_append]
 have hsz : ∀ e ∈ (ck ++ [o]).map onT, e.cells.length = 3 := fun e he => by
  obtain ⟨d, _, rfl⟩ := List.mem_map.1 he; rfl
 have m3 : ((ck ++ [o]).map onT).length = (ck.map onT).length + 1 := by simp
 show Pure _ _ [.t (.sl 3 (ck.map onT)), .t (.ag [.s o.name, T.n o.t, T.n o.tag])] _
 refine Sound.of tabOk Tryz.func95 (by kernel_rfl) rfl rfl ?_
 repeat' (first | refine wkt ?_ | refine wk ?_ | exact wkc | intro hc | refine wk2 ?_ ?_ | (apply TO.makeSliceC (b := (ck.map onT).length) (c := (ck.map onT).length + 1) tabOk; (iterate 8 exact rfl); omega; omega; exact rfl) | (apply TO.copy_ms (H' := [.cells (mixC (onCs ck) zOn 1)]) tabOk; (iterate 10 exact rfl); exact Nat.le_refl _; (rw [zerosOf_len]; show 0 + (ck.map onT).length * 3 ≤ ((ck.map onT).length + 1) * 3; omega); (exact congrArg (fun c => [Blk.cells c]) e1)) | fail)
 apply TO.append_ms (H' := [.cells ((onCs (ck ++ [o])).map .t)]) tabOk
 iterate 12 exact rfl
 ·rw [mixC_len, onCs_len, m1]; show 0 + (ck.length + 1) * 3 ≤ ck.length * 3 + 1 * 3; omega
 ·exact congrArg (fun c => [Blk.cells c]) e2
 refine TO.freezeP 18 3 0 ((ck.map onT).length + 1) (es := (ck ++ [o]).map onT) rfl rfl (by rw [m3, m1, List.length_map, onCs_len]; simp) (fun j c hj => hj) m3.symm hsz rfl rfl ?_
 repeat' (first | refine wkt ?_ | refine wk ?_ | exact wkc | intro hc | refine wk2 ?_ ?_ | fail)
 exact wkr
theorem argsG_append (f : Nat → Ex → Int) : ∀ (a b : List Ex) (i : Nat), argsG f i (a ++ b) = orE (argsG f i a) (argsG f (i + a.length) b)
 | [], b, i => by simp [argsG, orE]
 | x :: a, b, i => by
   rw [List.cons_append, argsG, argsG, argsG_append f a b, List.length_cons, show i + 1 + a.length = i + (a.length + 1) by omega]
   unfold orE; split <;> simp_all
theorem argsG_next {f : Nat → Ex → Int} {l : List Ex} {k : Nat} (hk : k < l.length) (h : argsG f 0 (l.take k) = 0) (hn : f k l[k] = 0) : argsG f 0 (l.take (k + 1)) = 0 := by
 rw [List.take_succ_eq_append_getElem hk, argsG_append, h, List.length_take, Nat.min_eq_left (by omega), Nat.zero_add]
 simp [argsG, orE, hn]
theorem argsG_at {f : Nat → Ex → Int} {l : List Ex} {k : Nat} (hk : k < l.length) (h : argsG f 0 (l.take k) = 0) (hn : f k l[k] ≠ 0) : argsG f 0 l = f k l[k] := by
 conv => lhs; rw [← List.take_append_drop k l]
 rw [argsG_append, h, List.drop_eq_getElem_cons hk, argsG, List.length_take, Nat.min_eq_left (by omega), Nat.zero_add]
 simp [orE, hn]
theorem under1_sound (ck : List OnC) (j : Int) : Pure Tryz.prog 91 [.i j, .cp [onsT ck] 0] (.t (onsT ck)) := by
 refine Sound.of tabOk Tryz.func91 (by kernel_rfl) rfl rfl ?_
 repeat' (first | refine wkt ?_ | refine wk ?_ | exact wkc | intro hc | refine wk2 ?_ ?_ | fail)
 exact wkr
theorem under2_sound (ck : List OnC) (k : Nat) (hk : k ≤ ck.length) (j : Int) : Pure Tryz.prog 93 [.i j, .cp [onsT ck] 0, .cp [.i k] 0] (.t (onsT (ck.take k))) := by
 have m1 : (ck.map onT).length = ck.length := List.length_map _
 rw [show onsT (ck.take k) = .sl 3 ((ck.map onT).take k) by rw [onsT, List.map_take]]
 refine Sound.of tabOk Tryz.func93 (by kernel_rfl) rfl rfl ?_
 repeat' (first | refine wkt ?_ | refine wk ?_ | exact wkc | intro hc | refine wk2 ?_ ?_ | fail)
 exact wkr
theorem under3_sound (ck : List OnC) (hck : ck.length ≤ 1000000000) (e : Ex) (j : Nat) (hj : j ≤ 1000000000) : Pure Tryz.prog 94 [.i j, .cp [onsT ck] 0, .cp (exC e) 0] (.t (onsT (ck ++ [⟨e.name, e.t, nI j⟩]))) := by
 have hs := longer_sound ck hck ⟨e.name, e.t, nI j⟩
 rw [show onT ⟨e.name, e.t, nI j⟩ = .ag [.s e.name, T.n e.t, T.i j] from by show T.ag [.s e.name, T.n e.t, T.i (nI j).1] = _; rw [nI_val (by omega)]] at hs
 unfold exC
 refine Sound.of tabOk Tryz.func94 (by kernel_rfl) rfl rfl ?_
 repeat' (first | refine wkt ?_ | refine wk ?_ | exact wkc | intro hc | refine wk2 ?_ ?_ | refine wv hs ?_ | fail)
 exact wkr
abbrev chkT (vars : List Decl) : SV := .t (.ag [declsT vars])
theorem headG_len {vars : List Decl} {e : Ex} {ck : List OnC} (h : headG vars e ck = 0) (hck : SmallK ck) (hn : e.name.length ≤ 1000000000) (j : Nat) : SmallK (underX e ck j) := by
 unfold underX
 split
 ·exact ⟨by have := hck.1; simp; omega, fun o ho => hck.2 o ((List.dropLast_sublist ck).subset ho)⟩
 ·split
  ·rename_i h8 h9
   have hlt : ck.length < 4 := by
    unfold headG at h
    rw [if_neg (by omega), if_neg h8, if_pos h9] at h
    split at h
    ·split at h
     ·assumption
     ·cases h
    ·cases h
   refine ⟨by simp; omega, fun o ho => ?_⟩
   simp at ho
   rcases ho with ho | rfl
   ·exact hck.2 o ho
   ·exact hn
  ·exact hck
set_option maxHeartbeats 8000000 in
theorem fits_sound (vars : List Decl) (hl : vars.length ≤ 1000000000) (hk : ∀ d ∈ vars, SmallK d.clock) : ∀ (m : Nat) (e : Ex), wEx e ≤ m → wEx e ≤ 1000000000 → (∀ x ∈ flat e, x.name.length ≤ 1000000000) → ∀ ck, SmallK ck →
  Pure Tryz.prog 54 [chkT vars, .t (.ag (exC e)), .t (onsT ck)] (.i (fitsX vars e ck)) := by
 intro m
 induction m with
 | zero => intro e he; have := wEx_pos e; omega
 | succ m ih0 =>
   intro e he hb hn ck hck
   have hself := hn e (flat_mem.2 (.inl rfl))
   have ih : ∀ a ∈ e.args, ∀ ck, SmallK ck → Pure Tryz.prog 54 [chkT vars, .t (.ag (exC a)), .t (onsT ck)] (.i (fitsX vars a ck)) := fun a ha => ih0 a (by have := wEx_arg ha; omega) (by have := wEx_arg ha; omega) (fun x hx => hn x (flat_sub ha x hx))
   clear ih0
   have hon := on_sound vars hl hk e.name ck hck
   have hck1 := hck.1
   have hml : (e.args.map exT).length = e.args.length := List.length_map _
   have mck : (ck.map onT).length = ck.length := List.length_map _
   have hal : e.args.length ≤ 1000000000 := by
    have : ∀ l : List Ex, l.length ≤ (l.map wEx).sum := fun l => by
     induction l with
     | nil => simp
     | cons y l ih => have := wEx_pos y; simp; omega
    have h2 := wEx_eq e
    have := this e.args
    omega
   rw [fitsX_eq]
   by_cases h1 : e.kind.1 = 1 ∨ e.kind.1 = 11
   ·rw [if_pos h1]
    clear ih hon
    unfold exC
    refine Sound.of tabOk Tryz.func54 (by kernel_rfl) rfl rfl ?_
    repeat' (first | refine wkt ?_ | refine wka ?_ | refine wk ?_ | exact wkc | intro hc | refine wk2 ?_ ?_ | fail | fail)
    all_goals first
     | exact wkr
     | (exfalso; omega)
   rw [if_neg h1]
   by_cases hz : headG vars e ck = 0
   ·
    have hus := headG_len hz hck hself
    have hor : orE (headG vars e ck) (argsG (fun i a => fitsX vars a (underX e ck i)) 0 e.args) = argsG (fun i a => fitsX vars a (underX e ck i)) 0 e.args := by rw [hz]; rfl
    rw [hor]
    clear hor
    unfold exC at *
    by_cases h2 : e.kind.1 = 2
    let fid : FuncId := 91
    let caps : List SV := [.cp [onsT ck] 0]
    have hfn : ∀ k : Nat, k < e.args.length → Pure Tryz.prog fid (.i k :: caps) (.t (onsT (underX e ck k))) := fun k _ => by
     rw [show underX e ck k = ck by unfold underX; rw [if_neg (by omega), if_neg (by omega)]]
     exact under1_sound ck k
    have hx : onX vars e.name ck = true := by
     unfold headG at hz
     rw [if_pos h2] at hz
     exact Classical.byContradiction fun h => by rw [if_neg h] at hz; cases hz
    rw [hx] at hon
    refine Sound.of tabOk Tryz.func54 (by kernel_rfl) rfl rfl ?_
    repeat' (first | refine wkt ?_ | refine wka ?_ | refine wk ?_ | exact wkc | intro hc | refine wk2 ?_ ?_ | refine wv hon ?_ | fail)
    rotate_left
    by_cases h8 : e.kind.1 = 8
    obtain ⟨c0, o, hcc⟩ : ∃ c0 o, ck = c0 ++ [o] := by
     rcases List.eq_nil_or_concat ck with h | ⟨c0, o, h⟩
     ·subst h
      unfold headG at hz
      rw [if_neg h2, if_pos h8] at hz
      simp at hz
     ·exact ⟨c0, o, by simpa using h⟩
    have hzz : o = onOf e ∧ onX vars e.name c0 = true := by
     unfold headG at hz
     rw [if_neg h2, if_pos h8] at hz
     exact Classical.byContradiction fun h => by
      rw [if_neg (by rw [hcc]; simpa using h)] at hz; cases hz
    obtain ⟨k0, hk0⟩ : ∃ k0, k0 = c0.length := ⟨_, rfl⟩
    have hlk : ck.length = k0 + 1 := by rw [hcc, hk0]; simp
    have htk : ck.take k0 = c0 := by rw [hcc, hk0]; simp
    have hlast : (ck.map onT)[k0]? = some (.ag [.s o.name, T.n o.t, T.n o.tag]) := by rw [hcc, hk0]; simp [onT]
    have hon := on_sound vars hl hk e.name (ck.take k0) (hck.take k0)
    rw [htk, hzz.2, ← htk, show onsT (ck.take k0) = .sl 3 ((ck.map onT).take k0) by rw [onsT, List.map_take]] at hon
    have hnv : (((ck.map onT).length : Int) - 1) = (k0 : Int) := by omega
    have hno : o.name.length ≤ 1000000000 := hck.2 o (by rw [hcc]; simp)
    have hne : (!decide (o = onOf e)) = false := by rw [hzz.1]; simp
    let fid : FuncId := 93
    let caps : List SV := [.cp [onsT ck] 0, .cp [.i k0] 0]
    have hfn : ∀ k : Nat, k < e.args.length → Pure Tryz.prog fid (.i k :: caps) (.t (onsT (underX e ck k))) := fun k _ => by
     rw [show underX e ck k = ck.take k0 by unfold underX; rw [if_pos h8, List.dropLast_eq_take, hlk]; simp]
     exact under2_sound ck k0 (by omega) k
    refine Sound.of tabOk Tryz.func54 (by kernel_rfl) rfl rfl ?_
    repeat' (first | refine wkt ?_ | refine wka ?_ | exact wkc | intro hc | refine wk2 ?_ ?_ | (apply Go.TL.TO.sub64; (iterate 3 exact rfl); omega; omega) | fail)
    rw [hnv]
    repeat' (first | refine wkt ?_ | refine wka ?_ | refine rg [.i k0, .b false, .b false, .t (onsT ck), .i k0, .cp [.s o.name, T.n o.t, T.n o.tag] 0, .t (.ag [.s o.name, T.n o.t, T.n o.tag]), .cp [T.n e.kind, T.n e.op, T.n e.t, T.n e.v, .s e.name, .sl 6 (e.args.map exT)] 4, .s e.name, .cp [T.n e.kind, T.n e.op, T.n e.t, T.n e.v, .s e.name, .sl 6 (e.args.map exT)] 2, .t (T.n e.t), .cp [T.n e.kind, T.n e.op, T.n e.t, T.n e.v, .s e.name, .sl 6 (e.args.map exT)] 3, .t (T.n e.v), .t (.ag [.s e.name, T.n e.t, T.n e.v]), .b false, .b false, .b false, chkT vars, .cp [T.n e.kind, T.n e.op, T.n e.t, T.n e.v, .s e.name, .sl 6 (e.args.map exT)] 4, .s e.name, .t (onsT ck), .i k0, .t (.sl 3 ((ck.map onT).take k0)), .b true, .b false, .b false] ?_ ?_ | refine wv hon ?_ | (apply TO.neOnV (b := onOf e); (iterate 3 exact rfl); assumption; assumption; (first | exact hne | exact rfl)) | exact trivial | exact And.intro rfl rfl | refine And.intro (fun H env => ?_) ?_ | refine wk ?_ | exact wkc | intro hc | refine wk2 ?_ ?_ | fail)
    rotate_left
    by_cases h9 : e.kind.1 = 9
    have hx : onX vars e.name ck = true ∧ ck.length < 4 := by
     unfold headG at hz
     rw [if_neg h2, if_neg h8, if_pos h9] at hz
     by_cases ha : onX vars e.name ck = true
     ·rw [if_pos ha] at hz
      exact ⟨ha, Classical.byContradiction fun h => by rw [if_neg h] at hz; cases hz⟩
     ·rw [if_neg ha] at hz; cases hz
    rw [hx.1] at hon
    have hx4 := hx.2
    let fid : FuncId := 94
    let caps : List SV := [.cp [onsT ck] 0, .cp [T.n e.kind, T.n e.op, T.n e.t, T.n e.v, .s e.name, .sl 6 (e.args.map exT)] 0]
    have hfn : ∀ k : Nat, k < e.args.length → Pure Tryz.prog fid (.i k :: caps) (.t (onsT (underX e ck k))) := fun k hk => by
     rw [show underX e ck k = ck ++ [⟨e.name, e.t, nI k⟩] by unfold underX; rw [if_neg h8, if_pos h9]]
     exact under3_sound ck (by omega) e k (by omega)
    refine Sound.of tabOk Tryz.func54 (by kernel_rfl) rfl rfl ?_
    repeat' (first | refine wkt ?_ | refine wka ?_ | refine wk ?_ | exact wkc | intro hc | refine wk2 ?_ ?_ | refine wv hon ?_ | fail)
    rotate_left
    let fid : FuncId := 91
    let caps : List SV := [.cp [onsT ck] 0]
    have hfn : ∀ k : Nat, k < e.args.length → Pure Tryz.prog fid (.i k :: caps) (.t (onsT (underX e ck k))) := fun k _ => by
     rw [show underX e ck k = ck by unfold underX; rw [if_neg (by omega), if_neg (by omega)]]
     exact under1_sound ck k
    clear hon
    refine Sound.of tabOk Tryz.func54 (by kernel_rfl) rfl rfl ?_
    repeat' (first | refine wkt ?_ | refine wka ?_ | refine wk ?_ | exact wkc | intro hc | refine wk2 ?_ ?_ | fail | fail)
    all_goals
     refine TR.loopN e.args.length (fun k => argsG (fun i a => fitsX vars a (underX e ck i)) 0 (e.args.take k) = 0) (fun k => [(3, .cp [declsT vars] 0), (7, .fn fid caps), (73, .t (.sl 6 (e.args.map exT))), (74, .i (e.args.map exT).length), (75, .i k)]) (fun _ => []) rfl (fun k hlt ha => ?_) (fun ha => ?_)
     ·have hx := at_exT hlt
      have g1 := argsG_at (f := fun i a => fitsX vars a (underX e ck i)) hlt ha
      have g2 := argsG_next (f := fun i a => fitsX vars a (underX e ck i)) hlt ha
      have hi := ih _ (List.getElem_mem hlt) (underX e ck k) (hus k)
      have hf := hfn k hlt
      generalize fitsX vars e.args[k] (underX e ck k) = r at *
      generalize e.args[k] = a at *
      generalize underX e ck k = cu at *
      unfold exC at hx
      repeat' (first | refine wkt ?_ | refine wka ?_ | refine rg [chkT vars, .t (.ag [T.n a.kind, T.n a.op, T.n a.t, T.n a.v, .s a.name, .sl 6 (a.args.map exT)]), .fn fid caps, .i k, .t (onsT cu), .i r, .i r] ?_ ?_ | refine wv hi ?_ | (apply TO.callV hf; (iterate 3 exact rfl); exact Les.refl _; exact rfl; exact rfl) | exact trivial | exact And.intro rfl rfl | refine And.intro (fun H env => ?_) ?_ | refine wk ?_ | exact wkc | intro hc | refine wk2 ?_ ?_ | fail)
      all_goals first
       | exact LoopK.nextN hlt (g2 (by omega))
       | (rw [g1 (by omega)]; (repeat' (first | refine LoopK.ret ?_ | refine wk ?_ | fail)); exact wkr)
     ·rw [List.take_length] at ha
      rw [ha]
      repeat' (first | refine wkt ?_ | refine wk ?_ | exact wkc | intro hc | refine wk2 ?_ ?_ | fail)
      exact wkr
   ·
    unfold exC at *
    clear ih
    unfold headG at hz ⊢
    by_cases h2 : e.kind.1 = 2
    ·rw [if_pos h2] at hz ⊢
     have hx : onX vars e.name ck = false := by
      cases hq : onX vars e.name ck with
      | false => rfl
      | true => rw [hq] at hz; simp at hz
     rw [hx] at hon ⊢
     simp only [Bool.false_eq_true, if_false]
     refine Sound.of tabOk Tryz.func54 (by kernel_rfl) rfl rfl ?_
     repeat' (first | refine wkt ?_ | refine wka ?_ | refine wk ?_ | exact wkc | intro hc | refine wk2 ?_ ?_ | refine wv hon ?_ | fail)
     exact wkr
    rw [if_neg h2] at hz ⊢
    by_cases h8 : e.kind.1 = 8
    ·rw [if_pos h8] at hz ⊢
     rw [if_neg (fun h => hz (if_pos h))]
     have hz := fun h => hz (if_pos h)
     rcases List.eq_nil_or_concat ck with h | ⟨c0, o, h⟩
     ·subst h
      refine Sound.of tabOk Tryz.func54 (by kernel_rfl) rfl rfl ?_
      repeat' (first | refine wkt ?_ | refine wka ?_ | refine rg [.i (-1), .b true, .b true, .t (.v undef), .t (.v undef), .t (.v undef), .t (.v undef), .t (.v undef), .t (.v undef), .t (.v undef), .t (.v undef), .t (.v undef), .t (.v undef), .t (.v undef), .t (.v undef), .b true, .b true, .t (.v undef), .t (.v undef), .t (.v undef), .t (.v undef), .t (.v undef), .t (.v undef), .t (.v undef), .t (.v undef), .b true] ?_ ?_ | exact trivial | exact And.intro rfl rfl | refine And.intro (fun H env => ?_) ?_ | refine wk ?_ | exact wkc | intro hc | refine wk2 ?_ ?_ | fail)
      exact wkr
     have hcc : ck = c0 ++ [o] := by simpa using h
     obtain ⟨k0, hk0⟩ : ∃ k0, k0 = c0.length := ⟨_, rfl⟩
     have hlk : ck.length = k0 + 1 := by rw [hcc, hk0]; simp
     have htk : ck.take k0 = c0 := by rw [hcc, hk0]; simp
     have hlast : (ck.map onT)[k0]? = some (.ag [.s o.name, T.n o.t, T.n o.tag]) := by rw [hcc, hk0]; simp [onT]
     have hnv : (((ck.map onT).length : Int) - 1) = (k0 : Int) := by omega
     have hno : o.name.length ≤ 1000000000 := hck.2 o (by rw [hcc]; simp)
     by_cases ho : o = onOf e
     ·have hx : onX vars e.name c0 = false := by
       cases hq : onX vars e.name c0 with
       | false => rfl
       | true => exact absurd (by rw [hcc]; simp [ho, hq]) hz
      have hon := on_sound vars hl hk e.name (ck.take k0) (hck.take k0)
      rw [htk, hx, ← htk, show onsT (ck.take k0) = .sl 3 ((ck.map onT).take k0) by rw [onsT, List.map_take]] at hon
      have hne : (!decide (o = onOf e)) = false := by rw [ho]; simp
      refine Sound.of tabOk Tryz.func54 (by kernel_rfl) rfl rfl ?_
      repeat' (first | refine wkt ?_ | refine wka ?_ | exact wkc | intro hc | refine wk2 ?_ ?_ | (apply Go.TL.TO.sub64; (iterate 3 exact rfl); omega; omega) | fail)
      rw [hnv]
      repeat' (first | refine wkt ?_ | refine wka ?_ | refine rg [.i k0, .b false, .b false, .t (onsT ck), .i k0, .cp [.s o.name, T.n o.t, T.n o.tag] 0, .t (.ag [.s o.name, T.n o.t, T.n o.tag]), .cp [T.n e.kind, T.n e.op, T.n e.t, T.n e.v, .s e.name, .sl 6 (e.args.map exT)] 4, .s e.name, .cp [T.n e.kind, T.n e.op, T.n e.t, T.n e.v, .s e.name, .sl 6 (e.args.map exT)] 2, .t (T.n e.t), .cp [T.n e.kind, T.n e.op, T.n e.t, T.n e.v, .s e.name, .sl 6 (e.args.map exT)] 3, .t (T.n e.v), .t (.ag [.s e.name, T.n e.t, T.n e.v]), .b false, .b false, .b false, chkT vars, .cp [T.n e.kind, T.n e.op, T.n e.t, T.n e.v, .s e.name, .sl 6 (e.args.map exT)] 4, .s e.name, .t (onsT ck), .i k0, .t (.sl 3 ((ck.map onT).take k0)), .b false, .b true, .b true] ?_ ?_ | refine wv hon ?_ | (apply TO.neOnV (b := onOf e); (iterate 3 exact rfl); assumption; assumption; (first | exact hne | exact rfl)) | exact trivial | exact And.intro rfl rfl | refine And.intro (fun H env => ?_) ?_ | refine wk ?_ | exact wkc | intro hc | refine wk2 ?_ ?_ | fail)
      exact wkr
     ·have hne : (!decide (o = onOf e)) = true := by simp [ho]
      refine Sound.of tabOk Tryz.func54 (by kernel_rfl) rfl rfl ?_
      repeat' (first | refine wkt ?_ | refine wka ?_ | exact wkc | intro hc | refine wk2 ?_ ?_ | (apply Go.TL.TO.sub64; (iterate 3 exact rfl); omega; omega) | fail)
      rw [hnv]
      repeat' (first | refine wkt ?_ | refine wka ?_ | refine rg [.i k0, .b false, .b false, .t (onsT ck), .i k0, .cp [.s o.name, T.n o.t, T.n o.tag] 0, .t (.ag [.s o.name, T.n o.t, T.n o.tag]), .cp [T.n e.kind, T.n e.op, T.n e.t, T.n e.v, .s e.name, .sl 6 (e.args.map exT)] 4, .s e.name, .cp [T.n e.kind, T.n e.op, T.n e.t, T.n e.v, .s e.name, .sl 6 (e.args.map exT)] 2, .t (T.n e.t), .cp [T.n e.kind, T.n e.op, T.n e.t, T.n e.v, .s e.name, .sl 6 (e.args.map exT)] 3, .t (T.n e.v), .t (.ag [.s e.name, T.n e.t, T.n e.v]), .b true, .b true, .b true, .t (.v undef), .t (.v undef), .t (.v undef), .t (.v undef), .t (.v undef), .t (.v undef), .t (.v undef), .t (.v undef), .b true] ?_ ?_ | (apply TO.neOnV (b := onOf e); (iterate 3 exact rfl); assumption; assumption; (first | exact hne | exact rfl)) | exact trivial | exact And.intro rfl rfl | refine And.intro (fun H env => ?_) ?_ | refine wk ?_ | exact wkc | intro hc | refine wk2 ?_ ?_ | fail)
      exact wkr
    rw [if_neg h8] at hz ⊢
    by_cases h9 : e.kind.1 = 9
    ·rw [if_pos h9] at hz ⊢
     cases hq : onX vars e.name ck with
     | false =>
       rw [hq] at hon
       simp only [Bool.false_eq_true, if_false]
       refine Sound.of tabOk Tryz.func54 (by kernel_rfl) rfl rfl ?_
       repeat' (first | refine wkt ?_ | refine wka ?_ | refine wk ?_ | exact wkc | intro hc | refine wk2 ?_ ?_ | refine wv hon ?_ | fail)
       exact wkr
     | true =>
       rw [hq] at hon
       rw [hq] at hz
       have h4 : ¬ ck.length < 4 := fun h => hz (by simp [h])
       simp only [if_true, if_neg h4]
       refine Sound.of tabOk Tryz.func54 (by kernel_rfl) rfl rfl ?_
       repeat' (first | refine wkt ?_ | refine wka ?_ | refine wk ?_ | exact wkc | intro hc | refine wk2 ?_ ?_ | refine wv hon ?_ | fail)
       exact wkr
    ·rw [if_neg h9] at hz; exact absurd rfl hz
end Go.Proofs.YtlocalghkiepmaaGreat
namespace Go.TL
open Go
def WeakK (K : TK) : TK := fun e env H => ∃ env1 : Env, (∀ i v, env1.look i = some v → ∃ u, env.look i = some u ∧ Le u v) ∧ K e env1 H
section rules
variable {P : Program} {n : Nat} {env : Env} {H : Heap} {K : TK}
theorem Post.weak {φ : Fm} {m : M} {e : Exit} {a : Act} {w : World} (h : Post φ m n (WeakK K) e a w) : Post φ m n K e a w := by
 obtain ⟨m2, env2, te, rfl, s, hm, he, hd, hx, env1, hle, hk⟩ := h
 exact ⟨m2, env1, te, rfl, s, hm, ⟨he.1, fun i v hv => by
  obtain ⟨u, hu, hl⟩ := hle i v hv
  obtain ⟨x, x1, x2⟩ := he.2 i u hu
  exact ⟨x, x1, hl m2 x x2⟩⟩, hd, hx, hk⟩
theorem TR.weak {c : Code} (h : TR P n c env H (WeakK K)) : TR P n c env H K :=
 fun φ m a h1 h2 h3 h4 => wpr_mono (h φ m a h1 h2 h3 h4) fun _ _ _ hp => hp.weak
theorem WeakK.done {e : TExit} (h : K e env H) : WeakK K e env H := ⟨env, fun _ v hv => ⟨v, hv, Le.refl v⟩, h⟩
theorem WeakK.own {e : TExit} (i : Nat) {sz id : Nat} {es : List T} (hi : env.look i = some (.sl sz es id)) (h : K e ((i, .t (.sl sz es)) :: env) H) : WeakK K e env H := by
 refine ⟨_, fun j v hv => ?_, h⟩
 by_cases hj : i = j
 ·subst hj
  rw [Env.look_cons_same] at hv
  cases hv
  exact ⟨_, hi, Le.own _ _ _⟩
 ·rw [Env.look_cons_other _ _ hj] at hv
  exact ⟨v, hv, Le.refl v⟩
theorem WeakK.ret (h : K .ret env H) : WeakK K .ret env H := WeakK.done h
theorem WeakK.exit {i : Nat} (h : K (.exit i) env H) : WeakK K (.exit i) env H := WeakK.done h
variable {all : Array Oper} {rest : List Oper} {tab : Tab} {d : Nat} {ty : TypeId} {pos : String} {aft : Array Edge}
theorem TO.append0 (hT : TabOk P tab) {t t' e : TypeId} {i i' ie : TyI} {sz id : Nat} {ys : List T} {x y : Operand} {vy : SV} {H' : Heap} (hd : Nat.ble (d + 1) n = true) (ht : tab.get t = some i) (hk : i.k = .slice e) (ht' : tab.get t' = some i') (hk' : i'.k = .slice e)
  (he : tab.get e = some ie) (hs : ie.size = sz) (hpos : Nat.ble 1 sz = true) (hx : env.val x = some (.sl sz [] id)) (hH : H[id]? = some (.tail 0)) (hy : env.val y = some vy) (hvy : vy.elems sz = some ys)
  (hby : Nat.ble ie.bytes 4096 = true) (hb1 : ys.length ≤ 10000000000) (hH' : H.set id (.tail ys.length) = H')
  (k : TO false P n all rest ((d, .sl sz ys id) :: env) H' K) : TO false P n all (⟨some d, .call { callee := .builtin .append, args := #[x, y], argTypes := #[t, t'] }, ty, pos, aft, none⟩ :: rest) env H K :=
 TO.appendB (es := []) hT hd ht hk ht' hk' he hs hpos hx hH hy hvy hby (by simpa using hb1) (by rw [← hH']; simp) k
end rules
end Go.TL
namespace Go.TL
open Go
theorem TO.tail {P : Program} {n : Nat} {env : Env} {K : TK} {all : Array Oper} {ops : List Oper} {H : Heap} (sz i : Nat) (hi : env.look i = some (.t (.v (.slice none 0 0)))) (k : TO false P n all ops ((i, .sl sz [] H.length) :: env) (H ++ [.tail 0]) K) : TO false P n all ops env H K := by
 intro φ m a h1 h2 h3 h4
 obtain ⟨x, hx1, hx2⟩ := h3.2 i _ hi
 have := hx2.v_eq
 subst this
 obtain ⟨s, hm'⟩ := grow_tail h2
 refine wpListIn_mono (fun _ _ _ hp => hp.step s) (fun _ _ => Post.not_outgrown) _ _ _ (k φ ⟨m.A, m.β ++ [⟨0, 0, 0⟩], m.H ++ [.tail 0], m.w⟩ a (by rw [h1]) hm' ⟨h3.1, fun j v hv => ?_⟩ h4)
 by_cases hj : i = j
 ·subst hj
  rw [Env.look_cons_same] at hv
  cases hv
  exact ⟨_, hx1, h1 ▸ nil_tail h2 sz⟩
 ·rw [Env.look_cons_other _ _ hj] at hv
  exact (h3.step h2 s).2 j v hv
end Go.TL
set_option linter.unusedVariables false
set_option linter.unusedSimpArgs false
namespace Go.Proofs.YtlocalghkiepmaaGreat
open Go Go.TL
attribute [local irreducible] TR TO Then InBlock RetK Sound LoopK Kf GG ThenL
theorem longerR_sound (ck : List OnC) (hck : ck.length ≤ 1000000000) (o : OnC) : Pure Tryz.prog 99 [.t (onsT ck), .t (onT o)] (.t (onsT (ck ++ [o]))) := by
 have hma : (ck ++ [o]).map onT = ck.map onT ++ [.ag [.s o.name, T.n o.t, T.n o.tag]] := by simp [onT]
 have m1 : (ck.map onT).length = ck.length := List.length_map _
 show Pure _ _ [.t (.sl 3 (ck.map onT)), .t (.ag [.s o.name, T.n o.t, T.n o.tag])] _
 rw [onsT, hma]
 refine Sound.of tabOk Tryz.func99 (by kernel_rfl) rfl rfl ?_
 repeat' (first | refine wkt ?_ | fail)
 refine TO.tail 3 6 rfl ?_
 apply TO.append0 tabOk; iterate 13 exact rfl
 ·simp only [List.length_map]; omega
 ·exact rfl
 repeat' (first | refine wkt ?_ | refine wk ?_ | exact wkc | intro hc | refine wk2 ?_ ?_ | fail)
 exact wkr
theorem smallZ {vars : List Decl} (hk : ∀ d ∈ vars, SmallK d.clock) (nm : Str) : SmallK (findZ vars nm).clock := by
 unfold findZ
 cases h : findD vars nm with
 | none => exact SmallK.nil
 | some d => exact hk d (findD_mem h).1
set_option maxHeartbeats 8000000 in
theorem fitsKR_sound (vars : List Decl) (hl : vars.length ≤ 1000000000) (hk : ∀ d ∈ vars, SmallK d.clock) : ∀ (m : Nat) (e : Ex), wEx e ≤ m → wEx e ≤ 1000000000 → (∀ x ∈ flat e, x.name.length ≤ 1000000000) → (∀ x ∈ flat e, oneX x = 0) → ∀ ck, SmallK ck → ck.length ≤ 4 →
  Pure Tryz.prog 58 [.t (declsT vars), .t (.ag (exC e)), .t (onsT ck)] (.i (fitsR vars m e ck)) := by
 intro m
 induction m with
 | zero => intro e he; have := wEx_pos e; omega
 | succ m ih0 =>
   intro e he hb hn ho1 ck hck hc4
   have hself := hn e (flat_mem.2 (.inl rfl))
   have hone := ho1 e (flat_mem.2 (.inl rfl))
   have ih : ∀ a ∈ e.args, ∀ ck, SmallK ck → ck.length ≤ 4 → Pure Tryz.prog 58 [.t (declsT vars), .t (.ag (exC a)), .t (onsT ck)] (.i (fitsR vars m a ck)) := fun a ha => ih0 a (by have := wEx_arg ha; omega) (by have := wEx_arg ha; omega) (fun x hx => hn x (flat_sub ha x hx)) (fun x hx => ho1 x (flat_sub ha x hx))
   clear ih0
   have hf := findKR_sound vars hl e.name
   have hsz := smallZ hk e.name
   have hdc := findZ_clock vars e.name
   generalize findZ vars e.name = d at *
   generalize (findD vars e.name).isSome = fo at *
   have hs := sameKR_sound d.clock ck hsz hck
   rw [show declT d = .ag [.s d.name, T.n d.ty, .sl 3 (d.clock.map onT)] from rfl] at hf
   have hck1 := hck.1
   have hml : (e.args.map exT).length = e.args.length := List.length_map _
   have mck : (ck.map onT).length = ck.length := List.length_map _
   have hal : e.args.length ≤ 1000000000 := by
    have : ∀ l : List Ex, l.length ≤ (l.map wEx).sum := fun l => by
     induction l with
     | nil => simp
     | cons y l ih => have := wEx_pos y; simp; omega
    have h2 := wEx_eq e
    have := this e.args
    omega
   rw [fitsR]
   unfold headR
   rw [← hdc]
   clear hdc
   have hcx : exC e = [T.n e.kind, T.n e.op, T.n e.t, T.n e.v, .s e.name, .sl 6 (e.args.map exT)] := rfl
   rw [hcx] at *
   by_cases h2 : e.kind.1 = 2
   ·rw [if_pos h2, if_pos h2]
    clear ih
    by_cases hq : d.clock = ck
    ·rw [decide_eq_true hq] at hs
     rw [if_pos hq]
     refine Sound.of tabOk Tryz.func58 (by kernel_rfl) rfl rfl ?_
     repeat' (first | refine wkt ?_ | refine wka ?_ | refine wk ?_ | exact wkc | intro hc | refine wk2 ?_ ?_ | refine wv hf ?_ | refine wv hs ?_ | fail)
     exact wkr
    ·rw [decide_eq_false hq] at hs
     rw [if_neg hq]
     refine Sound.of tabOk Tryz.func58 (by kernel_rfl) rfl rfl ?_
     repeat' (first | refine wkt ?_ | refine wka ?_ | refine wk ?_ | exact wkc | intro hc | refine wk2 ?_ ?_ | refine wv hf ?_ | refine wv hs ?_ | fail)
     exact wkr
   rw [if_neg h2, if_neg h2]
   by_cases h8 : e.kind.1 = 8
   ·rw [if_pos h8, if_pos h8]
    clear hs
    obtain ⟨a, hargs⟩ : ∃ a, e.args = [a] := List.length_eq_one_iff.1 (arity_one hone h8)
    rcases List.eq_nil_or_concat ck with h | ⟨c0, o, h⟩
    ·subst h
     clear ih
     refine Sound.of tabOk Tryz.func58 (by kernel_rfl) rfl rfl ?_
     repeat' (first | refine wkt ?_ | refine wka ?_ | refine rg [.i (-1), .b true, .b true, .t (.v undef), .t (.v undef), .t (.v undef), .t (.v undef), .t (.v undef), .t (.v undef), .t (.v undef), .t (.v undef), .t (.v undef), .t (.v undef), .t (.v undef), .t (.v undef), .b true, .b true, .t (.v undef), .t (.v undef), .t (.v undef), .t (.v undef), .t (.v undef), .t (.v undef), .t (.v undef), .b true] ?_ ?_ | refine wv hf ?_ | exact trivial | exact And.intro rfl rfl | refine And.intro (fun H env => ?_) ?_ | refine wk ?_ | exact wkc | intro hc | refine wk2 ?_ ?_ | fail)
     exact wkr
    have hcc : ck = c0 ++ [o] := by simpa using h
    obtain ⟨k0, hk0⟩ : ∃ k0, k0 = c0.length := ⟨_, rfl⟩
    have hlk : ck.length = k0 + 1 := by rw [hcc, hk0]; simp
    have htk : ck.take k0 = c0 := by rw [hcc, hk0]; simp
    have hlast : (ck.map onT)[k0]? = some (.ag [.s o.name, T.n o.t, T.n o.tag]) := by rw [hcc, hk0]; simp [onT]
    have hnv : (((ck.map onT).length : Int) - 1) = (k0 : Int) := by omega
    have hno : o.name.length ≤ 1000000000 := hck.2 o (by rw [hcc]; simp)
    have hgl : ck.getLast? = some o := by rw [hcc]; simp
    have hdl : ck.dropLast = c0 := by rw [hcc]; simp
    have hi := ih a (by rw [hargs]; simp) (ck.take k0) (hck.take k0) (by simp; omega)
    have hs := sameKR_sound d.clock (ck.take k0) hsz (hck.take k0)
    rw [htk, ← htk, show onsT (ck.take k0) = .sl 3 ((ck.map onT).take k0) by rw [onsT, List.map_take], htk] at hs hi
    rw [hgl, hdl, show e.args.headD e = a by rw [hargs]; rfl]
    have hax : (e.args.map exT)[0]? = some (.ag [T.n a.kind, T.n a.op, T.n a.t, T.n a.v, .s a.name, .sl 6 (a.args.map exT)]) := by rw [hargs]; simp [exT_eq, exC]
    clear ih hgl hdl
    generalize fitsR vars m a c0 = r at *
    unfold exC at hi
    by_cases ho : o = onOf e
    ·have hne : (!decide (o = onOf e)) = false := by rw [ho]; simp
     by_cases hq : d.clock = c0
     ·rw [decide_eq_true hq] at hs
      rw [if_pos ⟨by rw [ho], hq⟩, show orE 0 r = r from rfl]
      refine Sound.of tabOk Tryz.func58 (by kernel_rfl) rfl rfl ?_
      repeat' (first | refine wkt ?_ | refine wka ?_ | refine wv hf ?_ | exact wkc | intro hc | refine wk2 ?_ ?_ | (apply Go.TL.TO.sub64; (iterate 3 exact rfl); omega; omega) | fail)
      rw [hnv]
      repeat' (first | refine wkt ?_ | refine wka ?_ | refine rg [.i k0, .b false, .b false, .t (onsT ck), .i k0, .cp [.s o.name, T.n o.t, T.n o.tag] 0, .t (.ag [.s o.name, T.n o.t, T.n o.tag]), .cp [T.n e.kind, T.n e.op, T.n e.t, T.n e.v, .s e.name, .sl 6 (e.args.map exT)] 4, .s e.name, .cp [T.n e.kind, T.n e.op, T.n e.t, T.n e.v, .s e.name, .sl 6 (e.args.map exT)] 2, .t (T.n e.t), .cp [T.n e.kind, T.n e.op, T.n e.t, T.n e.v, .s e.name, .sl 6 (e.args.map exT)] 3, .t (T.n e.v), .t (.ag [.s e.name, T.n e.t, T.n e.v]), .b false, .b false, .b false, .cp [.s d.name, T.n d.ty, .sl 3 (d.clock.map onT)] 2, .t (onsT d.clock), .t (onsT ck), .i k0, .t (.sl 3 ((ck.map onT).take k0)), .b true, .b false, .b false] ?_ ?_ | refine rg [.t (declsT vars), .cp [T.n e.kind, T.n e.op, T.n e.t, T.n e.v, .s e.name, .sl 6 (e.args.map exT)] 5, .t (.sl 6 (e.args.map exT)), .cp [T.n a.kind, T.n a.op, T.n a.t, T.n a.v, .s a.name, .sl 6 (a.args.map exT)] 0, .t (.ag [T.n a.kind, T.n a.op, T.n a.t, T.n a.v, .s a.name, .sl 6 (a.args.map exT)]), .t (onsT ck), .i k0, .t (.sl 3 ((ck.map onT).take k0)), .i r, .i r] ?_ ?_ | refine wv hs ?_ | refine wv hi ?_ | (apply TO.neOnV (b := onOf e); (iterate 3 exact rfl); assumption; assumption; (first | exact hne | exact rfl)) | exact trivial | exact And.intro rfl rfl | refine And.intro (fun H env => ?_) ?_ | refine wk ?_ | exact wkc | intro hc | refine wk2 ?_ ?_ | fail)
      exact wkr
     ·rw [decide_eq_false hq] at hs
      rw [if_neg (fun h => hq h.2), show orE 11 r = 11 from rfl]
      clear hi
      refine Sound.of tabOk Tryz.func58 (by kernel_rfl) rfl rfl ?_
      repeat' (first | refine wkt ?_ | refine wka ?_ | refine wv hf ?_ | exact wkc | intro hc | refine wk2 ?_ ?_ | (apply Go.TL.TO.sub64; (iterate 3 exact rfl); omega; omega) | fail)
      rw [hnv]
      repeat' (first | refine wkt ?_ | refine wka ?_ | refine rg [.i k0, .b false, .b false, .t (onsT ck), .i k0, .cp [.s o.name, T.n o.t, T.n o.tag] 0, .t (.ag [.s o.name, T.n o.t, T.n o.tag]), .cp [T.n e.kind, T.n e.op, T.n e.t, T.n e.v, .s e.name, .sl 6 (e.args.map exT)] 4, .s e.name, .cp [T.n e.kind, T.n e.op, T.n e.t, T.n e.v, .s e.name, .sl 6 (e.args.map exT)] 2, .t (T.n e.t), .cp [T.n e.kind, T.n e.op, T.n e.t, T.n e.v, .s e.name, .sl 6 (e.args.map exT)] 3, .t (T.n e.v), .t (.ag [.s e.name, T.n e.t, T.n e.v]), .b false, .b false, .b false, .cp [.s d.name, T.n d.ty, .sl 3 (d.clock.map onT)] 2, .t (onsT d.clock), .t (onsT ck), .i k0, .t (.sl 3 ((ck.map onT).take k0)), .b false, .b true, .b true] ?_ ?_ | refine wv hs ?_ | (apply TO.neOnV (b := onOf e); (iterate 3 exact rfl); assumption; assumption; (first | exact hne | exact rfl)) | exact trivial | exact And.intro rfl rfl | refine And.intro (fun H env => ?_) ?_ | refine wk ?_ | exact wkc | intro hc | refine wk2 ?_ ?_ | fail)
      exact wkr
    ·have hne : (!decide (o = onOf e)) = true := by simp [ho]
     rw [if_neg (fun h => ho (Option.some.inj h.1)), show orE 11 r = 11 from rfl]
     clear hi
     refine Sound.of tabOk Tryz.func58 (by kernel_rfl) rfl rfl ?_
     repeat' (first | refine wkt ?_ | refine wka ?_ | refine wv hf ?_ | exact wkc | intro hc | refine wk2 ?_ ?_ | (apply Go.TL.TO.sub64; (iterate 3 exact rfl); omega; omega) | fail)
     rw [hnv]
     repeat' (first | refine wkt ?_ | refine wka ?_ | refine rg [.i k0, .b false, .b false, .t (onsT ck), .i k0, .cp [.s o.name, T.n o.t, T.n o.tag] 0, .t (.ag [.s o.name, T.n o.t, T.n o.tag]), .cp [T.n e.kind, T.n e.op, T.n e.t, T.n e.v, .s e.name, .sl 6 (e.args.map exT)] 4, .s e.name, .cp [T.n e.kind, T.n e.op, T.n e.t, T.n e.v, .s e.name, .sl 6 (e.args.map exT)] 2, .t (T.n e.t), .cp [T.n e.kind, T.n e.op, T.n e.t, T.n e.v, .s e.name, .sl 6 (e.args.map exT)] 3, .t (T.n e.v), .t (.ag [.s e.name, T.n e.t, T.n e.v]), .b true, .b true, .b true, .t (.v undef), .t (.v undef), .t (.v undef), .t (.v undef), .t (.v undef), .t (.v undef), .t (.v undef), .b true] ?_ ?_ | (apply TO.neOnV (b := onOf e); (iterate 3 exact rfl); assumption; assumption; (first | exact hne | exact rfl)) | exact trivial | exact And.intro rfl rfl | refine And.intro (fun H env => ?_) ?_ | refine wk ?_ | exact wkc | intro hc | refine wk2 ?_ ?_ | fail)
     exact wkr
   rw [if_neg h8, if_neg h8]
   by_cases hbad : e.kind.1 = 9 ∧ ¬ (d.clock = ck ∧ ck.length ≠ 4)
   ·obtain ⟨h9, hbad⟩ := hbad
    rw [if_pos h9]
    clear ih
    by_cases hq : d.clock = ck
    ·have h4 : ck.length = 4 := Classical.byContradiction fun h => hbad ⟨hq, h⟩
     rw [decide_eq_true hq] at hs
     rw [if_pos hq, if_pos h4]
     refine Sound.of tabOk Tryz.func58 (by kernel_rfl) rfl rfl ?_
     repeat' (first | refine wkt ?_ | refine wka ?_ | refine wk ?_ | exact wkc | intro hc | refine wk2 ?_ ?_ | refine wv hf ?_ | refine wv hs ?_ | fail)
     exact wkr
    ·rw [decide_eq_false hq] at hs
     rw [if_neg hq]
     refine Sound.of tabOk Tryz.func58 (by kernel_rfl) rfl rfl ?_
     repeat' (first | refine wkt ?_ | refine wka ?_ | refine wk ?_ | exact wkc | intro hc | refine wk2 ?_ ?_ | refine wv hf ?_ | refine wv hs ?_ | fail)
     exact wkr
   have hgo : e.kind.1 = 9 → d.clock = ck ∧ ck.length < 4 := fun h => by
    have := Classical.byContradiction fun hh => hbad ⟨h, hh⟩
    exact ⟨this.1, by omega⟩
   have hhead : (if e.kind.1 = 9 then if d.clock = ck then if ck.length = 4 then (3 : Int) else 0 else 11 else 0) = 0 := by
    split
    ·rename_i h9
     obtain ⟨q1, q2⟩ := hgo h9
     rw [if_pos q1, if_neg (by omega)]
    ·rfl
   rw [hhead, show orE 0 (argsG (fun i a => fitsR vars m a (underX e ck i)) 0 e.args) = argsG (fun i a => fitsR vars m a (underX e ck i)) 0 e.args from rfl]
   clear hhead hbad
   have hus : ∀ j, SmallK (underX e ck j) ∧ (underX e ck j).length ≤ 4 := fun j => by
    unfold underX
    rw [if_neg h8]
    split
    ·rename_i h9
     have := (hgo h9).2
     refine ⟨⟨by simp; omega, fun o ho => ?_⟩, by simp; omega⟩
     simp at ho
     rcases ho with ho | rfl
     ·exact hck.2 o ho
     ·exact hself
    ·exact ⟨hck, hc4⟩
   have hlo := fun k : Nat => longerR_sound ck (by omega) ⟨e.name, e.t, nI k⟩
   by_cases h9 : e.kind.1 = 9
   obtain ⟨q1, q2⟩ := hgo h9
   rw [decide_eq_true q1] at hs
   refine Sound.of tabOk Tryz.func58 (by kernel_rfl) rfl rfl ?_
   repeat' (first | refine wkt ?_ | refine wka ?_ | refine wk ?_ | exact wkc | intro hc | refine wk2 ?_ ?_ | refine wv hf ?_ | refine wv hs ?_ | fail)
   rotate_left
   clear hs
   refine Sound.of tabOk Tryz.func58 (by kernel_rfl) rfl rfl ?_
   repeat' (first | refine wkt ?_ | refine wka ?_ | refine wk ?_ | exact wkc | intro hc | refine wk2 ?_ ?_ | refine wv hf ?_ | fail)
   all_goals
    refine TR.loopN e.args.length (fun k => argsG (fun i a => fitsR vars m a (underX e ck i)) 0 (e.args.take k) = 0) (fun k => [(0, .t (declsT vars)), (2, .t (onsT ck)), (4, .cp [T.n e.kind, T.n e.op, T.n e.t, T.n e.v, .s e.name, .sl 6 (e.args.map exT)] 0), (10, .i k)]) (fun _ => []) rfl (fun k hlt ha => ?_) (fun ha => ?_)
    ·have hx := at_exT hlt
     have g1 := argsG_at (f := fun i a => fitsR vars m a (underX e ck i)) hlt ha
     have g2 := argsG_next (f := fun i a => fitsR vars m a (underX e ck i)) hlt ha
     have hi := ih _ (List.getElem_mem hlt) (underX e ck k) (hus k).1 (hus k).2
     have hlo := hlo k
     rw [show onT ⟨e.name, e.t, nI k⟩ = .ag [.s e.name, T.n e.t, T.i k] from by show T.ag [.s e.name, T.n e.t, T.i (nI k).1] = _; rw [nI_val (by omega)]] at hlo
     have hun : underX e ck k = if e.kind.1 = 9 then ck ++ [⟨e.name, e.t, nI k⟩] else ck := by unfold underX; rw [if_neg h8]
     first
     | rw [if_pos h9] at hun
     | rw [if_neg h9] at hun
     rw [hun] at hi g1 g2
     generalize fitsR vars m e.args[k] _ = r at *
     generalize e.args[k] = a at *
     unfold exC at hx hi
     repeat' (first | refine wkt ?_ | refine wka ?_ | refine wk ?_ | exact wkc | intro hc | refine wk2 ?_ ?_ | refine wv hi ?_ | refine wv hlo ?_ | fail)
     all_goals first
      | exact LoopK.nextN hlt (g2 (by omega))
      | (rw [g1 (by omega)]; (repeat' (first | refine LoopK.ret ?_ | refine wk ?_ | fail)); exact wkr)
    ·rw [List.take_length] at ha
     rw [ha]
     repeat' (first | refine wkt ?_ | refine wk ?_ | exact wkc | intro hc | refine wk2 ?_ ?_ | fail)
     exact wkr
end Go.Proofs.YtlocalghkiepmaaGreat
