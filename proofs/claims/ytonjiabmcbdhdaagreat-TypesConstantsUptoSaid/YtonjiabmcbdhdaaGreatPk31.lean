import Derived.Test.YtonjiabmcbdhdaaGreatPk14
import Derived.Test.YtonjiabmcbdhdaaGreatPk22
import Derived.Test.YtonjiabmcbdhdaaGreatPk30
set_option linter.unusedSimpArgs false
set_option linter.unusedVariables false
namespace Go.TL
open Go
def forcedBD (ops : Array Oper) (k : Nat) : Bool := (List.range ops.size).all fun j => Nat.blt j k || (List.range j).all fun i => (cov ops 40 (afterOf ops j)).contains i
theorem forcedD {ops : Array Oper} {L : Array Bool} {k j : Nat} (hs : L.size = ops.size) (hf : forcedBD ops k = true) (hdc : DC ops L) (hj : j ∈ Region.ready .any ops L) (hk : k ≤ j) : ∀ i, i < j → L[i]? = some true := by
 intro i hi
 obtain ⟨h1, h2⟩ := (ready_iff hs).1 hj
 have hlt := (Array.getElem?_eq_some_iff.1 h1).1
 have := List.all_eq_true.1 hf j (by simp; omega)
 simp only [Bool.or_eq_true] at this
 rcases this with h | h
 ·simp at h; omega
 ·have := List.all_eq_true.1 h i (by simpa using hi)
  exact cov_listed hdc 40 _ h2 i (by simpa using this)
section rules
variable {P : Program} {all : Array Oper}
theorem any_preD {r : Option Nat} {C : World → Prop} {Q : Act → Prop} {Q' : Exit → Act → World → Prop} {k n2 : Nat} (hd : downB all = true) (hf : forcedBD all k = true) (hp : ∀ (i : Nat) o, i < k → all[i]? = some o → Op.plain o.op = true)
  (hQ : ∀ (L : Array Bool) a w, L.size = all.size → (∀ (i : Nat), i < k → i < all.size → L[i]? = some true) → (∀ (i : Nat), k ≤ i → i < all.size → L[i]? = some false) → C w → Q a → wpAnyIn (Fr r) 0 P .any all Q' n2 L a w) :
  ∀ (u : Nat) (L M : Array Bool) (a : Act) (w : World), L.size = all.size → M.size = all.size → (∀ (i : Nat), i < k → M[i]? = L[i]?) → (∀ (i : Nat), k ≤ i → i < all.size → M[i]? = some true) → (∀ (i : Nat), k ≤ i → i < all.size → L[i]? = some false) →
    DC all L → C w → wpAnyQIn (Fr r) 0 P .any all C Q u M a → wpAnyIn (Fr r) 0 P .any all Q' (u + n2) L a w := by
 intro u
 have full : ∀ (L M : Array Bool), L.size = all.size → M.size = all.size → (∀ (i : Nat), i < k → M[i]? = L[i]?) → (∀ (i : Nat), k ≤ i → i < all.size → M[i]? = some true) → DC all L → Region.ready .any all M = [] → ∀ (i : Nat), i < k → i < all.size → L[i]? = some true := by
  intro L M hL hM h1 h2 hdc hr i hi hia
  refine Classical.byContradiction fun hne => ?_
  have hMi : M[i]? = some false := by
   rw [h1 i hi]
   have : L[i]? = some (L[i]'(by omega)) := Array.getElem?_eq_getElem (by omega)
   rw [this] at hne ⊢
   cases h : L[i]'(by omega)
   ·rfl
   ·rw [h] at hne; exact absurd rfl hne
  obtain ⟨m, _, hm, _⟩ := first_ready hM hd hMi
  rw [hr] at hm; cases hm
 induction u with
 | zero =>
   intro L M a w hL hM h1 h2 h3 hdc hC h
   rw [Nat.zero_add]
   exact hQ L a w hL (full L M hL hM h1 h2 hdc h.1) h3 hC h.2
 | succ u ih =>
   intro L M a w hL hM h1 h2 h3 hdc hC h
   by_cases hr : Region.ready .any all M = []
   ·exact any_monoN _ _ _ _ (hQ L a w hL (full L M hL hM h1 h2 hdc hr) h3 hC (h.1 hr)) (u + 1)
   ·
    obtain ⟨x, hx⟩ := List.exists_mem_of_ne_nil _ hr
    have hx1 := ((ready_iff hM).1 hx).1
    have hxl := (Array.getElem?_eq_some_iff.1 hx1).1
    have hxk : x < k := Nat.lt_of_not_le fun hle => by rw [h2 x hle (by omega)] at hx1; cases hx1
    have hLx : L[x]? = some false := by rw [← h1 x hxk]; exact hx1
    rw [show u + 1 + n2 = (u + n2) + 1 from by omega]
    refine ⟨fun h0 => ?_, fun i hi => ?_⟩
    ·obtain ⟨m, _, hm, _⟩ := first_ready hL hd hLx
     rw [h0] at hm; cases hm
    ·have hik : i < k := Nat.lt_of_not_le fun hle => by
      have := forcedD hL hf hdc hi hle x (by omega)
      rw [this] at hLx; cases hLx
     obtain ⟨g1, g2⟩ := (ready_iff hL).1 hi
     have hiM : i ∈ Region.ready .any all M := by
      refine (ready_iff hM).2 ⟨by rw [h1 i hik]; exact g1, fun j hj => ?_⟩
      have hjl := (Array.getElem?_eq_some_iff.1 (g2 j hj)).1
      by_cases hjk : j < k
      ·rw [h1 j hjk]; exact g2 j hj
      ·exact h2 j (by omega) (by omega)
     have hnext : ∀ a' w', C w' → wpAnyQIn (Fr r) 0 P .any all C Q u (M.setIfInBounds i true) a' → wpAnyIn (Fr r) 0 P .any all Q' (u + n2) (L.setIfInBounds i true) a' w' := by
      intro a' w' hC' hk'
      refine ih (L.setIfInBounds i true) (M.setIfInBounds i true) a' w' (by simpa using hL) (by simpa using hM) ?_ ?_ ?_ (dc_set hL hdc hi) hC' hk'
      ·intro j hj
       rw [Array.getElem?_setIfInBounds, Array.getElem?_setIfInBounds, h1 j hj, hL, hM]
      ·intro j hj hja
       rw [Array.getElem?_setIfInBounds, if_neg (by omega)]
       exact h2 j hj hja
      ·intro j hj hja
       rw [Array.getElem?_setIfInBounds, if_neg (by omega)]
       exact h3 j hj hja
     have h4 := h.2 i hiM
     unfold qOpIn at h4
     unfold wpOpIn
     cases ho : all[i]? with
     | none => simp only [ho] at h4 ⊢; exact hnext _ _ hC h4
     | some o =>
       simp only [ho] at h4 ⊢
       obtain ⟨_, h4⟩ := h4
       split
       ·rename_i hwt
        rw [if_pos hwt] at h4
        exact op_of_quiet (hp i o hik ho) hC (fun a' w' hw' hk => hnext a' w' hw' hk) h4
       ·rename_i hwt
        rw [if_neg hwt] at h4
        exact ⟨fun _ _ => trivial, hnext _ _ hC h4⟩
theorem any_sufD {r : Option Nat} {Q' : Exit → Act → World → Prop} {k : Nat} (hd : downB all = true) (hf : forcedBD all k = true) : ∀ (l : List Oper) (p : Nat) (L : Array Bool) (a : Act) (w : World), k ≤ p → (∀ j, l[j]? = all[p + j]?) → L.size = all.size →
   (∀ (i : Nat), i < p → i < all.size → L[i]? = some true) → (∀ (i : Nat), p ≤ i → i < all.size → L[i]? = some false) → wpListIn (Fr r) 0 P all Q' l a w → wpAnyIn (Fr r) 0 P .any all Q' l.length L a w
 | [], p, L, a, w, hk, hl, hL, h1, h2, h => by
   have hsz : all.size ≤ p := Nat.le_of_not_lt fun hlt => by
    have := hl 0
    rw [Nat.add_zero, Array.getElem?_eq_getElem hlt] at this
    cases this
   refine ⟨?_, h⟩
   refine List.eq_nil_iff_forall_not_mem.2 fun i hi => ?_
   have := ((ready_iff hL).1 hi).1
   have hlt := (Array.getElem?_eq_some_iff.1 this).1
   rw [h1 i (by omega) (by omega)] at this
   cases this
 | o :: l, p, L, a, w, hk, hl, hL, h1, h2, h => by
   have hpo : all[p]? = some o := by simpa using (hl 0).symm
   have hpl := (Array.getElem?_eq_some_iff.1 hpo).1
   have hLp := h2 p (Nat.le_refl _) hpl
   have hdc : DC all L := by
    intro i hi j hj
    have hil := (Array.getElem?_eq_some_iff.1 hi).1
    have hip : i < p := Nat.lt_of_not_le fun hle => by rw [h2 i hle (by omega)] at hi; cases hi
    have := List.all_eq_true.1 hd i (by simp; omega)
    have := List.all_eq_true.1 this j hj
    have hji : j < i := by simpa using this
    exact h1 j (by omega) (by omega)
   refine ⟨fun h0 => ?_, fun i hi => ?_⟩
   ·obtain ⟨m, _, hm, _⟩ := first_ready hL hd hLp
    rw [h0] at hm; cases hm
   ·have hi1 := ((ready_iff hL).1 hi).1
    have hil := (Array.getElem?_eq_some_iff.1 hi1).1
    have hip : p ≤ i := Nat.le_of_not_lt fun hlt => by rw [h1 i hlt (by omega)] at hi1; cases hi1
    have hipe : i = p := by
     refine Classical.byContradiction fun hne => ?_
     have := forcedD hL hf hdc hi (by omega) p (by omega)
     rw [this] at hLp; cases hLp
    subst hipe
    have hnext : ∀ a' w', wpListIn (Fr r) 0 P all Q' l a' w' → wpAnyIn (Fr r) 0 P .any all Q' l.length (L.setIfInBounds i true) a' w' := by
     intro a' w' h'
     refine any_sufD hd hf l (i + 1) (L.setIfInBounds i true) a' w' (by omega) (fun j => ?_) (by simpa using hL) (fun j hj hja => ?_) (fun j hj hja => ?_) h'
     ·have := hl (j + 1)
      simp only [List.getElem?_cons_succ] at this
      rw [this]; congr 1; omega
     ·rw [Array.getElem?_setIfInBounds]
      split
      ·first | rfl | rw [if_pos (by omega)]
      ·exact h1 j (by omega) hja
     ·rw [Array.getElem?_setIfInBounds, if_neg (by omega)]
      exact h2 j (by omega) hja
    unfold wpListIn at h
    unfold wpOpIn
    simp only [hpo]
    split
    ·rename_i hw
     rw [if_pos hw] at h
     exact Oper.wpIn_mono (fun a w h => hnext a w h) h
    ·rename_i hw
     rw [if_neg hw] at h
     exact ⟨h.1, hnext _ _ h.2⟩
def lastBD (ops : Array Oper) (k : Nat) : Bool :=
 Region.noSelect ops && (Nat.ble k ops.size && (downB ops && (forcedBD ops k && Region.lexFrom .any ops k 0 (Array.replicate k false ++ Array.replicate (ops.size - k) true))))
theorem TR.regionD {n : Nat} {env : Env} {H : Heap} {K : TK} (k : Nat) {id : Nat} {l : List Oper} (hm : P.follows .mixedOrders = true) (hB : lastBD l.toArray k = true) (hp : (l.take k).all (fun o => Op.plain o.op) = true)
  (h : TO true P n l.toArray (l.take k) env H (ThenL P n l.toArray (l.drop k) H K)) : TR P n (.region id l.toArray true) env H K := by
 simp only [lastBD, Bool.and_eq_true] at hB
 obtain ⟨hB1, hB2, hB3, hB4, hB5⟩ := hB
 have hk : k ≤ l.length := by simpa using Nat.le_of_ble_eq_true hB2
 intro φ m a h1 h2 h3 h4
 have hq := h φ m a h1 h2 h3 h4
 simp only at hq
 refine wpr_of_in (wpIn_region_any hm ?_)
 have hlt : (l.take k).length = k := by simp; omega
 have := any_preD (P := P) (all := l.toArray) (r := φ.r) (C := Keeps m.w) (Q := fun a' => ∀ w', Keeps m.w w' → wpListIn (Fr φ.r) 0 P l.toArray (Post φ m n K) (l.drop k) a' w')
  (Q' := Post φ m n K) (k := k) (n2 := (l.drop k).length) hB3 hB4 (fun i o hi ho => List.all_eq_true.1 hp o (List.mem_of_getElem? (i := i) (by rw [List.getElem?_take, if_pos hi]; simpa using ho)))
  (fun L a' w' hL g1 g2 hC hQ => any_sufD hB3 hB4 (l.drop k) k L a' w' (Nat.le_refl _) (fun j => by simp) hL g1 g2 (hQ w' hC))
  k (Array.replicate l.toArray.size false) (Array.replicate k false ++ Array.replicate (l.toArray.size - k) true) a { m.w with drawn := m.w.drawn + 1 } (by simp) (by simp; omega)
  (fun i hi => by
    rw [Array.getElem?_append_left (by simpa using hi), Array.getElem?_replicate, Array.getElem?_replicate, if_pos hi, if_pos (by simp; omega)])
  (fun i hi hia => by
    rw [Array.getElem?_append_right (by simpa using hi), Array.getElem?_replicate, if_pos (by simp at hia ⊢; omega)])
  (fun i hi hia => by rw [Array.getElem?_replicate, if_pos hia])
  (fun i hi => by rw [Array.getElem?_replicate] at hi; split at hi <;> cases hi)
  ⟨rfl, rfl, rfl, Nat.le_refl _, fun _ _ => rfl⟩ ?_
 ·have e : k + (l.drop k).length = l.toArray.size := by simp; omega
  rw [e] at this
  exact this
 ·have hx := anyQ_lex (F := Fr φ.r) (N := 0) (P := P) (C := Keeps m.w) (md := .any) (Q := fun a' => ∀ w', Keeps m.w w' → wpListIn (Fr φ.r) 0 P l.toArray (Post φ m n K) (l.drop k) a' w') hB1 (l.take k) 0
   (Array.replicate k false ++ Array.replicate (l.toArray.size - k) true) a (fun j hj => by rw [List.getElem?_take, if_pos (by omega)]; simp) (by rw [hlt]; exact hB5) (quiet_in _ a (wpQuiet_mono ?_ _ a hq))
  ·rw [hlt] at hx; exact hx
  ·rintro a' ⟨env', g1, g2, g3⟩ w' hw'
   obtain ⟨s, hm'⟩ := keep_ok h2 hw'
   have := g3 φ ⟨m.A, m.β, m.H, w'⟩ a' h1 hm' (g1.step h2 s) (g2.step h2 s)
   exact TO.step' s this
theorem TR.regionD1 {n : Nat} {env : Env} {H : Heap} {K : TK} {id : Nat} {l : List Oper} (hm : P.follows .mixedOrders = true) (hB : lastBD l.toArray (l.length - 1) = true) (hp : (l.take (l.length - 1)).all (fun o => Op.plain o.op) = true)
  (h : TO true P n l.toArray (l.take (l.length - 1)) env H (ThenL P n l.toArray (l.drop (l.length - 1)) H K)) : TR P n (.region id l.toArray true) env H K := TR.regionD _ hm hB hp h
theorem TR.regionD2 {n : Nat} {env : Env} {H : Heap} {K : TK} {id : Nat} {l : List Oper} (hm : P.follows .mixedOrders = true) (hB : lastBD l.toArray (l.length - 2) = true) (hp : (l.take (l.length - 2)).all (fun o => Op.plain o.op) = true)
  (h : TO true P n l.toArray (l.take (l.length - 2)) env H (ThenL P n l.toArray (l.drop (l.length - 2)) H K)) : TR P n (.region id l.toArray true) env H K := TR.regionD _ hm hB hp h
end rules
end Go.TL
namespace Go.Proofs.YtonjiabmcbdhdaaGreat
open Go Go.TL
attribute [local irreducible] TR TO Then InBlock RetK Sound LoopK Kf GG ThenL
theorem wkD {G Q : Prop} (k : Q) (h : Hold Q → G := by
  first
  | (intro k; apply Go.TL.TR.regionD2 hmix; decide +kernel; exact rfl; exact k.p)
  | (intro k; apply Go.TL.TR.regionD1 hmix; decide +kernel; exact rfl; exact k.p)) : G := h ⟨k⟩
def callE (p : Prog) (seen : List (Int × Str × Int)) (node left : Int) (x : Ex) : Int :=
 match seenGet seen 1 x.name with
 | none => 6
 | some i => if i < node then (match p.nodes[i.toNat]? with
   | none => 0
   | some n => if (x.args.length : Int) ≠ n.ins.length + x.v.1 then 9 else if (n.outs.length : Int) ≠ left then 9 else 0) else 6
def SeenN (p : Prog) (seen : List (Int × Str × Int)) : Prop := ∀ s i, seenGet seen 1 s = some i → 0 ≤ i ∧ i < p.nodes.length
section
variable {n : Nat} {env : Env} {K : TK} {all : Array Oper} {rest : List Oper} {d id : Nat} {ty : TypeId} {pos : String} {aft : Array Edge} {H : Heap} {x y : Operand} {q : Bool}
theorem TO.seenS {l : List (Int × Str × Int)} {s : Str} {k v : Int} (hd : Nat.ble (d + 1) n = true) (hx : env.val x = some (.mp id)) (hH : H[id]? = some (seenB l)) (hy : env.val y = some (.t (.ag [.i k, .s s]))) (hg : seenGet l k s = some v) (hl : SeenOk l) (hk : 0 ≤ k ∧ k ≤ 2) (hs : s.length ≤ 1000000000)
  (k1 : TO q Tryz.prog n all rest ((d, .tup [.i v, .b true]) :: env) H K) :
  TO q Tryz.prog n all (⟨some d, .lookup 91 x y true, ty, pos, aft, none⟩ :: rest) env H K :=
 TO.seenLook hd hx hH hy hl hk hs (fun w hw => by rw [hg] at hw; cases hw; exact k1) (fun hn => by rw [hg] at hn; cases hn)
theorem TO.seenNo {l : List (Int × Str × Int)} {s : Str} {k : Int} (hd : Nat.ble (d + 1) n = true) (hx : env.val x = some (.mp id)) (hH : H[id]? = some (seenB l)) (hy : env.val y = some (.t (.ag [.i k, .s s]))) (hg : seenGet l k s = none) (hl : SeenOk l) (hk : 0 ≤ k ∧ k ≤ 2) (hs : s.length ≤ 1000000000)
  (k1 : TO q Tryz.prog n all rest ((d, .tup [.i 0, .b false]) :: env) H K) :
  TO q Tryz.prog n all (⟨some d, .lookup 91 x y true, ty, pos, aft, none⟩ :: rest) env H K :=
 TO.seenLook hd hx hH hy hl hk hs (fun w hw => by rw [hg] at hw; cases hw) (fun _ => k1)
end
theorem retB {rs : List ResultVar} {env : Env} {H H1 : Heap} {n q c c' : Int} {N : Nat} {v : SV} (h0 : c' ≠ 0) (hc : c' = c) (hN : Nat.ble N H.length = true) :
  DeadK (RetK tab rs N (Err0 c v (failS n q c) H1 N)) (.panic (failS n q c')) env H := retS h0 hc (Nat.le_of_ble_eq_true hN)
theorem callM_sound (p : Prog) (hp : p.nodes.length ≤ 1000000000) (hq : ∀ u ∈ p.nodes, u.ins.length ≤ 1000000000 ∧ u.outs.length ≤ 1000000000) (a q : Int) (seen : List (Int × Str × Int)) (hse : SeenOk seen) (hsn : SeenN p seen) (node left : Int) (x : Ex) (hv : x.v.1 = 0 ∨ x.v.1 = 1) (hno : x.name.length ≤ 1000000000) :
  Sound Tryz.prog 147 [.ref 0 0, .i node, .t (.ag (exC x)), .i left] [lkB p a q, seenB seen] (Err (callE p seen node left x) (.tup []) (failS a q (callE p seen node left x)) [lkB p a q, seenB seen]) := by
 have hml : (p.nodes.map nodT).length = p.nodes.length := List.length_map _
 have hmx : (x.args.map exT).length = x.args.length := List.length_map _
 unfold callE exC
 cases hg : seenGet seen 1 x.name with
 | none =>
   simp only []
   refine Sound.err rfl (fun _ => rfl) ?_
   refine Sound.of tabOk Tryz.func147 (by kernel_rfl) rfl rfl ?_
   refine TR.dead ?_
   repeat' (first | refine wkt ?_ | refine wka ?_ | refine wkD ?_ | refine wk ?_ | exact wkc | intro hc | refine wk2 ?_ ?_ | (apply TO.setGet; exact rfl; exact rfl; exact rfl; exact rfl; assumption; assumption) | (apply TO.nilGet; exact rfl; exact rfl; exact rfl; assumption) | (apply TO.setPut; exact rfl; exact rfl; exact rfl; exact rfl; assumption; assumption; exact rfl) | refine wms ?_ | (apply TO.sees hk; exact rfl; exact rfl; (first | exact rfl | exact Ch.tk _ _ _ _ _); assumption) | (apply TO.defined hk; exact rfl; exact rfl; (first | exact rfl | exact Ch.tk _ _ _ _ _); assumption) | (apply TO.seenNo; exact rfl; exact rfl; exact rfl; exact rfl; assumption; assumption; decide; assumption) | fail)
   (apply retB; decide; rfl; exact rfl)
 | some i =>
   obtain ⟨hi0, hi1⟩ := hsn _ _ hg
   simp only []
   by_cases hin : i < node
   ·rw [if_pos hin]
    obtain ⟨k, rfl⟩ : ∃ k : Nat, i = k := ⟨i.toNat, by omega⟩
    have hk : k < p.nodes.length := by omega
    have hat : (p.nodes.map nodT)[((k : Int)).toNat]? = some (.ag (nodC p.nodes[k])) := at_nod hk
    have hat2 : p.nodes[((k : Int)).toNat]? = some p.nodes[k] := List.getElem?_eq_getElem hk
    rw [hat2]
    have hqk := hq _ (List.getElem_mem hk)
    generalize p.nodes[k] = u at *
    have m1 : (u.ins.map declT).length = u.ins.length := List.length_map _
    have m2 : (u.outs.map declT).length = u.outs.length := List.length_map _
    simp only []
    unfold nodC at hat
    refine Sound.err rfl (fun _ => rfl) ?_
    refine Sound.of tabOk Tryz.func147 (by kernel_rfl) rfl rfl ?_
    refine TR.dead ?_
    repeat' (first | refine wkt ?_ | refine wka ?_ | refine wkD ?_ | refine wk ?_ | exact wkc | intro hc | refine wk2 ?_ ?_ | (apply TO.setGet; exact rfl; exact rfl; exact rfl; exact rfl; assumption; assumption) | (apply TO.nilGet; exact rfl; exact rfl; exact rfl; assumption) | (apply TO.setPut; exact rfl; exact rfl; exact rfl; exact rfl; assumption; assumption; exact rfl) | refine wms ?_ | (apply TO.sees hk; exact rfl; exact rfl; (first | exact rfl | exact Ch.tk _ _ _ _ _); assumption) | (apply TO.defined hk; exact rfl; exact rfl; (first | exact rfl | exact Ch.tk _ _ _ _ _); assumption) | (apply TO.seenS; exact rfl; exact rfl; exact rfl; exact rfl; assumption; assumption; decide; assumption) | fail)
    ·exact retSN (by clear hat; simp; omega) rfl rfl rfl rfl
    ·(apply retB; decide; (clear hat; rw [if_neg (by simp; omega), if_pos (by omega)]); exact rfl)
    ·(apply retB; decide; (clear hat; rw [if_pos (by simp; omega)]); exact rfl)
   ·rw [if_neg hin]
    refine Sound.err rfl (fun _ => rfl) ?_
    refine Sound.of tabOk Tryz.func147 (by kernel_rfl) rfl rfl ?_
    refine TR.dead ?_
    repeat' (first | refine wkt ?_ | refine wka ?_ | refine wkD ?_ | refine wk ?_ | exact wkc | intro hc | refine wk2 ?_ ?_ | (apply TO.setGet; exact rfl; exact rfl; exact rfl; exact rfl; assumption; assumption) | (apply TO.nilGet; exact rfl; exact rfl; exact rfl; assumption) | (apply TO.setPut; exact rfl; exact rfl; exact rfl; exact rfl; assumption; assumption; exact rfl) | refine wms ?_ | (apply TO.sees hk; exact rfl; exact rfl; (first | exact rfl | exact Ch.tk _ _ _ _ _); assumption) | (apply TO.defined hk; exact rfl; exact rfl; (first | exact rfl | exact Ch.tk _ _ _ _ _); assumption) | (apply TO.seenS; exact rfl; exact rfl; exact rfl; exact rfl; assumption; assumption; decide; assumption) | fail)
    (apply retB; decide; rfl; exact rfl)
end Go.Proofs.YtonjiabmcbdhdaaGreat
namespace Go.TL
open Go
def NKP (K : TK) (g : Prop) (env1 : Env) (H1 : Heap) : TK
 | .normal, env, H => (env = env1 ∧ H = H1) ∧ g
 | .panic v, env, H => K (.panic v) env H
 | _, _, _ => False
section rules
variable {P : Program} {all : Array Oper}
theorem step_opP {K : TK} {g : Prop} {n i : Nat} {o : Oper} {env env1 : Env} {H H1 : Heap} {φ : Fm} {m : M} {a : Act} {X : Act → World → Prop} {Q : Exit → Act → World → Prop} (ho : all[i]? = some o) (ht : TO false P n all [o] env H (NKP K g env1 H1)) (h1 : m.H = H) (h2 : HRel m) (h3 : ERel m n env a.tmps) (h4 : DefOk φ m.w a.defers)
  (next : g → ∀ m' a', m'.H = H1 → Step m m' → HRel m' → ERel m' n env1 a'.tmps → DefOk φ m'.w a'.defers → X a' m'.w)
  (hpan : ∀ m' env' a' v ch, Step m m' → HRel m' → ERel m' n env' a'.tmps → DefOk φ m'.w a'.defers → ExRel m' (.panic v) (.panic ch) → K (.panic v) env' m'.H → Q (.panic ch) a' m'.w) : wpOpIn (Fr φ.r) 0 P all Q i X a m.w := by
 have h := ht φ m a h1 h2 h3 h4
 simp only at h
 have h' : wpListIn (Fr φ.r) 0 P all (NextQ X Q) [o] a m.w := by
  refine wpListIn_mono (fun e a' w' hp => ?_) (fun _ _ => Post.not_outgrown) [o] a m.w h
  obtain ⟨m', env', te, rfl, s, hm', he', hd', hx, hk⟩ := hp
  cases te with
  | normal =>
    obtain ⟨⟨rfl, hH⟩, hg⟩ := hk
    cases e <;> simp [ExRel] at hx
    exact next hg m' a' hH s hm' he' hd'
  | exit j => exact hk.elim
  | ret => exact hk.elim
  | panic v =>
    cases e with
    | panic ch => exact hpan m' env' a' v ch s hm' he' hd' hx hk
    | _ => simp [ExRel] at hx
 unfold wpListIn at h'
 unfold wpOpIn
 simp only [ho]
 split
 ·rename_i hw
  rw [if_pos hw] at h'
  exact wpIn_next h'
 ·rename_i hw
  rw [if_neg hw] at h'
  exact ⟨h'.1, h'.2⟩
theorem any_mixP {G : Nat → Prop} {n : Nat} {env0 : Env} {K : TK} {vs : List SV} {fl : List Bool} {hs : List Heap} {HF : Heap} {φ : Fm} {m0 : M} (hB : mixB all fl = true) (hvl : vs.length = all.size) (hfl : fl.length = all.size)
  (hq : ∀ (i : Nat) o v, all[i]? = some o → vs[i]? = some v → fl.getD i false = false → ∀ (c : Nat) H, hs[c]? = some H → ∀ env, TO false P n all [o] (pickE (fullE all vs env0) (slotsOf all o) ++ env) H (NKP K (G i) (putE o.dst v (pickE (fullE all vs env0) (slotsOf all o) ++ env)) H))
  (he : ∀ (i : Nat) o v, all[i]? = some o → vs[i]? = some v → fl.getD i false = true → ∃ H1 H2, hs[((fl.take i).filter id).length]? = some H1 ∧ hs[((fl.take i).filter id).length + 1]? = some H2 ∧ ∀ env, TO false P n all [o] (pickE (fullE all vs env0) (slotsOf all o) ++ env) H1 (NKP K (G i) (putE o.dst v (pickE (fullE all vs env0) (slotsOf all o) ++ env)) H2))
  (hF : hs[(fl.filter id).length]? = some HF) (hK : (∀ j, j < all.size → G j) → K .normal (fullE all vs env0) HF) :
  ∀ (fuel : Nat) (L : Array Bool) (m : M) (a : Act), L.size = all.size → DC all L → unl all.size L ≤ fuel →
    (∃ c, (∀ i : Nat, fl.getD i false = true → (((fl.take i).filter id).length < c ↔ L[i]? = some true)) ∧ c ≤ (fl.filter id).length ∧ hs[c]? = some m.H ∧ ∀ j, L[j]? = some true → G j) →
    Step m0 m → HRel m → ERel m n (envA all vs (fun i => L.getD i false) (List.range all.size) ++ env0) a.tmps → DefOk φ m.w a.defers →
    wpAnyIn (Fr φ.r) 0 P .any all (Post φ m0 n K) fuel L a m.w := by
 simp only [mixB, Bool.and_eq_true] at hB
 obtain ⟨hd, hall⟩ := hB
 have hall' : ∀ i, i < all.size → _ := fun i hi => List.all_eq_true.1 hall i (by simpa using hi)
 have hdl : ∀ i d, dstOf all i = some d → i < all.size := fun i d h => by
  unfold dstOf at h
  cases ho : all[i]? with
  | none => rw [ho] at h; cases h
  | some o => exact (Array.getElem?_eq_some_iff.1 ho).1
 have hu : ∀ i j d, dstOf all i = some d → dstOf all j = some d → i = j := by
  intro i j d h1 h2
  have := hall' i (hdl i d h1)
  simp only [Bool.and_eq_true] at this
  have := List.all_eq_true.1 this.1.1 j (by simpa using hdl j d h2)
  rw [h1, h2] at this
  simpa using this
 have hcv : ∀ (i : Nat) o s j, all[i]? = some o → s ∈ slotsOf all o → dstOf all j = some s → j ∈ cov all 8 (afterOf all i) := by
  intro i o s j ho hs' hj
  have := hall' i (Array.getElem?_eq_some_iff.1 ho).1
  simp only [Bool.and_eq_true, ho] at this
  have := List.all_eq_true.1 this.1.2 s hs'
  have := List.all_eq_true.1 this j (by simpa using hdl j s hj)
  rw [hj] at this
  simpa using this
 have hch : ∀ i j, i < all.size → fl.getD i false = true → j < i → fl.getD j false = true → j ∈ cov all 8 (afterOf all i) := by
  intro i j hi h1 hj h2
  have := hall' i hi
  simp only [Bool.and_eq_true, h1, Bool.not_true, Bool.false_or] at this
  have := List.all_eq_true.1 this.2 j (by simpa using hj)
  rw [h2] at this
  simpa using this
 have hfull : ∀ L : Array Bool, L.size = all.size → (∀ i, i < all.size → L[i]? = some true) → envA all vs (fun i => L.getD i false) (List.range all.size) ++ env0 = fullE all vs env0 := by
  intro L hL hA
  unfold fullE
  congr 1
  have : ∀ l : List Nat, (∀ i ∈ l, i < all.size) → envA all vs (fun i => L.getD i false) l = envA all vs (fun _ => true) l := by
   intro l
   induction l with
   | nil => intro _; rfl
   | cons i l ih =>
     intro hl
     have h1 : L.getD i false = true := gT.2 (hA i (hl i List.mem_cons_self))
     simp only [envA, h1, ih fun j hj => hl j (List.mem_cons_of_mem _ hj)]
  exact this _ fun i hi => by simpa using hi
 have hdone : ∀ (L : Array Bool) (m : M) (a : Act), L.size = all.size → (∀ i, i < all.size → L[i]? = some true) → (∃ c, (∀ i : Nat, fl.getD i false = true → (((fl.take i).filter id).length < c ↔ L[i]? = some true)) ∧ c ≤ (fl.filter id).length ∧ hs[c]? = some m.H ∧ ∀ j, L[j]? = some true → G j) →
   Step m0 m → HRel m → ERel m n (envA all vs (fun i => L.getD i false) (List.range all.size) ++ env0) a.tmps → DefOk φ m.w a.defers → Post φ m0 n K .normal a m.w := by
  rintro L m a hL hA ⟨c, hc1, hc2, hc3, hG⟩ s h2 h3 h4
  rw [hfull L hL hA] at h3
  have hc : c = (fl.filter id).length := by
   refine Nat.le_antisymm hc2 (Nat.le_of_not_lt fun hlt => ?_)
   have : ∀ (fl' : List Bool) (c : Nat), c < (fl'.filter id).length → ∃ i : Nat, fl'.getD i false = true ∧ ((fl'.take i).filter id).length = c := by
    intro fl'
    induction fl' with
    | nil => intro c h; simp at h
    | cons b fl' ih =>
      intro c h
      cases b with
      | false =>
        obtain ⟨i, g1, g2⟩ := ih c (by simpa using h)
        exact ⟨i + 1, by simpa using g1, by simpa using g2⟩
      | true =>
        cases c with
        | zero => exact ⟨0, rfl, rfl⟩
        | succ c =>
          obtain ⟨i, g1, g2⟩ := ih c (by simpa using h)
          exact ⟨i + 1, by simpa using g1, by simpa using g2⟩
   obtain ⟨i, g1, g2⟩ := this fl c hlt
   have hil : i < all.size := by
    rw [← hfl]
    refine Nat.lt_of_not_le fun hle => ?_
    rw [List.getD_eq_getElem?_getD, List.getElem?_eq_none hle] at g1
    cases g1
   have := (hc1 i g1).2 (hA i hil)
   omega
  subst hc
  rw [hF] at hc3
  cases hc3
  exact ⟨m, fullE all vs env0, .normal, rfl, s, h2, h3, h4, trivial, hK fun j hj => hG j (hA j hj)⟩
 intro fuel
 induction fuel with
 | zero =>
   intro L m a hL hdc hun hst s h2 h3 h4
   have hA : ∀ i, i < all.size → L[i]? = some true := by
    intro i hi
    have : L[i]? = some (L[i]'(by omega)) := Array.getElem?_eq_getElem (by omega)
    rw [this]
    cases hb : L[i]'(by omega)
    ·exfalso
     have hmem : i ∈ (List.range all.size).filter fun i => L[i]? == some false := by
      rw [List.mem_filter]
      exact ⟨by simpa using hi, by rw [this, hb]; rfl⟩
     have := List.length_pos_of_mem hmem
     unfold unl at hun
     omega
    ·rfl
   refine ⟨?_, hdone L m a hL hA hst s h2 h3 h4⟩
   refine List.eq_nil_iff_forall_not_mem.2 fun i hi => ?_
   have h := ((ready_iff hL).1 hi).1
   rw [hA i (by rw [← hL]; exact (Array.getElem?_eq_some_iff.1 h).1)] at h
   cases h
 | succ fuel ih =>
   intro L m a hL hdc hun hst s h2 h3 h4
   refine ⟨fun hr => ?_, fun i hi => ?_⟩
   ·refine hdone L m a hL (fun i hi => ?_) hst s h2 h3 h4
    have : L[i]? = some (L[i]'(by omega)) := Array.getElem?_eq_getElem (by omega)
    rw [this]
    cases hb : L[i]'(by omega)
    ·exfalso
     obtain ⟨j, _, hj, _⟩ := first_ready hL hd (n := i) (by rw [this, hb])
     rw [hr] at hj; cases hj
    ·rfl
   ·obtain ⟨g1, g2⟩ := (ready_iff hL).1 hi
    have hil : i < all.size := by rw [← hL]; exact (Array.getElem?_eq_some_iff.1 g1).1
    have ho : all[i]? = some all[i] := Array.getElem?_eq_getElem hil
    have hv : vs[i]? = some (vs[i]'(by omega)) := List.getElem?_eq_getElem (by omega)
    generalize all[i] = o at ho
    generalize vs[i]'(by omega) = v at hv
    obtain ⟨c, hc1, hc2, hc3, hG⟩ := hst
    have hcl := cov_listed hdc 8 (afterOf all i) g2
    have hlook : ∀ t u, (pickE (fullE all vs env0) (slotsOf all o) ++ (envA all vs (fun i => L.getD i false) (List.range all.size) ++ env0)).look t = some u →
      (envA all vs (fun i => L.getD i false) (List.range all.size) ++ env0).look t = some u := by
     intro t u htu
     rw [look_append] at htu
     cases hpk : (pickE (fullE all vs env0) (slotsOf all o)).look t with
     | none => rw [hpk] at htu; exact htu
     | some u' =>
       rw [hpk] at htu
       cases htu
       obtain ⟨k1, k2⟩ := pickE_look _ _ _ _ hpk
       unfold fullE at k2
       rw [look_append] at k2 ⊢
       cases hq' : (envA all vs (fun _ => true) (List.range all.size)).look t with
       | some u'' =>
         rw [hq'] at k2
         cases k2
         obtain ⟨j, j1, _, j2, j3⟩ := envA_inv _ hq'
         have hj := hcl j (hcv i o t j ho k1 j2)
         rw [envA_some hu (p := fun i => L.getD i false) (gT.2 hj) j2 j3 _ j1]
       | none =>
         rw [hq'] at k2
         have : (envA all vs (fun i => L.getD i false) (List.range all.size)).look t = none := by
          refine envA_none _ fun j hj _ hjd => ?_
          have hjl : j < all.size := by simpa using hj
          have := envA_some (vs := vs) hu (p := fun _ => true) rfl hjd (List.getElem?_eq_getElem (by omega)) (List.range all.size) hj
          rw [this] at hq'
          cases hq'
         rw [this]
         exact k2
    have h3' : ERel m n (pickE (fullE all vs env0) (slotsOf all o) ++ (envA all vs (fun i => L.getD i false) (List.range all.size) ++ env0)) a.tmps := h3.sub hlook
    have hset : ∀ j : Nat, (L.setIfInBounds i true)[j]? = if i = j then some true else L[j]? := by
     intro j
     rw [Array.getElem?_setIfInBounds]
     split
     ·rw [if_pos (by omega)]
     ·rfl
    have hnext : ∀ H1 : Heap, (∃ c', (∀ x : Nat, fl.getD x false = true → (((fl.take x).filter id).length < c' ↔ (L.setIfInBounds i true)[x]? = some true)) ∧ c' ≤ (fl.filter id).length ∧ hs[c']? = some H1) →
      G i → ∀ m' a', m'.H = H1 → Step m m' → HRel m' → ERel m' n (putE o.dst v (pickE (fullE all vs env0) (slotsOf all o) ++ (envA all vs (fun i => L.getD i false) (List.range all.size) ++ env0))) a'.tmps → DefOk φ m'.w a'.defers →
      wpAnyIn (Fr φ.r) 0 P .any all (Post φ m0 n K) fuel (L.setIfInBounds i true) a' m'.w := by
     rintro H1 ⟨c', q1, q2, q3⟩ hgi m' a' hH s' h2' h3'' h4'
     refine ih (L.setIfInBounds i true) m' a' (by simpa using hL) (dc_set hL hdc hi) ?_ ⟨c', q1, q2, by rw [hH]; exact q3, fun j hj => by
      rw [hset] at hj
      split at hj
      ·rename_i e; subst e; exact hgi
      ·exact hG j hj⟩ (s.trans s') h2' (h3''.sub fun t u htu => ?_) h4'
     ·have := filter_lt (p := fun x => L[x]? == some false) (q := fun x => (L.setIfInBounds i true)[x]? == some false) (fun x hx => by
       rw [hset] at hx
       split at hx
       ·cases hx
       ·exact hx) (List.range all.size) i (by simpa using hil) (by rw [g1]; rfl) (by rw [hset, if_pos rfl]; rfl)
      unfold unl at hun ⊢
      omega
     ·rw [look_append] at htu
      cases hq' : (envA all vs (fun x => (L.setIfInBounds i true).getD x false) (List.range all.size)).look t with
      | some u' =>
        rw [hq'] at htu
        cases htu
        obtain ⟨j, j1, j0, j2, j3⟩ := envA_inv _ hq'
        have j0' := gT.1 j0
        rw [hset] at j0'
        by_cases hij : i = j
        ·subst hij
         rw [hv] at j3
         cases j3
         unfold dstOf at j2
         rw [ho] at j2
         have : o.dst = some t := j2
         rw [this, putE, Env.look_cons_same]
        ·rw [if_neg hij] at j0'
         have hne : dstOf all i ≠ some t := fun e => hij (hu i j t e j2)
         have e2 : (envA all vs (fun i => L.getD i false) (List.range all.size) ++ env0).look t = some u := by
          rw [look_append, envA_some hu (p := fun i => L.getD i false) (gT.2 j0') j2 j3 _ j1]
         have e3 : (pickE (fullE all vs env0) (slotsOf all o) ++ (envA all vs (fun i => L.getD i false) (List.range all.size) ++ env0)).look t = some u := by
          rw [look_append]
          cases hpk : (pickE (fullE all vs env0) (slotsOf all o)).look t with
          | none => exact e2
          | some u' =>
            have := hlook t u' (by rw [look_append, hpk])
            rw [this] at e2
            exact e2
         cases hdd : o.dst with
         | none => exact e3
         | some d =>
           have : d ≠ t := fun e => hne (by unfold dstOf; rw [ho]; simp [hdd, e])
           rw [putE, Env.look_cons_other _ _ this]
           exact e3
      | none =>
        rw [hq'] at htu
        have hno : ∀ j, j < all.size → L[j]? = some true → dstOf all j ≠ some t := by
         intro j hj hjt hjd
         have := envA_some (vs := vs) hu (p := fun x => (L.setIfInBounds i true).getD x false) (i := j) (gT.2 (by rw [hset]; split; rfl; exact hjt)) hjd (List.getElem?_eq_getElem (by omega)) (List.range all.size) (by simpa using hj)
         rw [this] at hq'
         cases hq'
        have hni : dstOf all i ≠ some t := by
         intro hjd
         have := envA_some (vs := vs) hu (p := fun x => (L.setIfInBounds i true).getD x false) (i := i) (gT.2 (by rw [hset, if_pos rfl])) hjd (List.getElem?_eq_getElem (by omega)) (List.range all.size) (by simpa using hil)
         rw [this] at hq'
         cases hq'
        have e2 : (envA all vs (fun i => L.getD i false) (List.range all.size) ++ env0).look t = some u := by
         rw [look_append, envA_none (List.range all.size) fun j hj hjp => hno j (by simpa using hj) (gT.1 hjp)]
         exact htu
        have e3 : (pickE (fullE all vs env0) (slotsOf all o) ++ (envA all vs (fun i => L.getD i false) (List.range all.size) ++ env0)).look t = some u := by
         rw [look_append]
         cases hpk : (pickE (fullE all vs env0) (slotsOf all o)).look t with
         | none => exact e2
         | some u' =>
           have := hlook t u' (by rw [look_append, hpk])
           rw [this] at e2
           exact e2
        cases hdd : o.dst with
        | none => exact e3
        | some d =>
          have : d ≠ t := fun e => hni (by unfold dstOf; rw [ho]; simp [hdd, e])
          rw [putE, Env.look_cons_other _ _ this]
          exact e3
    cases hb : fl.getD i false with
    | false =>
      refine step_opP (K := K) (hpan := fun m' env' a' v ch s' hm' he' hd' hx hk => ⟨m', env', .panic v, rfl, s.trans s', hm', he', hd', hx, hk⟩) ho (hq i o v ho hv hb c m.H hc3 _) rfl h2 h3' h4 (hnext m.H ⟨c, fun x hx => ?_, hc2, hc3⟩)
      rw [hc1 x hx, hset]
      have : i ≠ x := fun e => by rw [e, hx] at hb; cases hb
      rw [if_neg this]
    | true =>
      obtain ⟨H1, H2, k1, k2, k3⟩ := he i o v ho hv hb
      have hci : ((fl.take i).filter id).length = c := by
       have h5 := hc1 i hb
       have hge : c ≤ ((fl.take i).filter id).length := Nat.le_of_not_lt fun hlt => by
        rw [h5.1 hlt] at g1; cases g1
       refine Nat.le_antisymm (Nat.le_of_not_lt fun hlt => ?_) hge
       have : ∀ (fl' : List Bool) (c : Nat), c < (fl'.filter id).length → ∃ j : Nat, j < fl'.length ∧ fl'.getD j false = true ∧ ((fl'.take j).filter id).length = c := by
        intro fl'
        induction fl' with
        | nil => intro c h; simp at h
        | cons b fl' ih =>
          intro c h
          cases b with
          | false =>
            obtain ⟨j, g0, g1, g2⟩ := ih c (by simpa using h)
            exact ⟨j + 1, by simpa using g0, by simpa using g1, by simpa using g2⟩
          | true =>
            cases c with
            | zero => exact ⟨0, by simp, rfl, rfl⟩
            | succ c =>
              obtain ⟨j, g0, g1, g2⟩ := ih c (by simpa using h)
              exact ⟨j + 1, by simpa using g0, by simpa using g1, by simpa using g2⟩
       obtain ⟨j, g0, g3, g4⟩ := this (fl.take i) c hlt
       have hji : j < i := by simp at g0; omega
       rw [List.getD_eq_getElem?_getD, List.getElem?_take, if_pos hji, ← List.getD_eq_getElem?_getD] at g3
       rw [List.take_take, Nat.min_eq_left (by omega)] at g4
       have h6 := hcl j (hch i j hil hb hji g3)
       have := (hc1 j g3).2 h6
       omega
      rw [hci] at k1 k2
      rw [hc3] at k1
      cases k1
      refine step_opP (K := K) (hpan := fun m' env' a' v ch s' hm' he' hd' hx hk => ⟨m', env', .panic v, rfl, s.trans s', hm', he', hd', hx, hk⟩) ho (k3 _) rfl h2 h3' h4 (hnext H2 ⟨c + 1, fun x hx => ?_, ?_, k2⟩)
      ·rw [hset]
       by_cases hix : i = x
       ·subst hix; rw [if_pos rfl, hci]; simp
       ·rw [if_neg hix, ← hc1 x hx]
        have hmono : ∀ (fl' : List Bool) (x y : Nat), x < y → fl'.getD x false = true → ((fl'.take x).filter id).length < ((fl'.take y).filter id).length := by
         intro fl'
         induction fl' with
         | nil => intro x y _ h; cases h
         | cons b fl' ih =>
           intro x y hxy h
           obtain ⟨y', rfl⟩ : ∃ y', y = y' + 1 := ⟨y - 1, by omega⟩
           cases x with
           | zero => simp at h; subst h; simp
           | succ x =>
             have := ih x y' (by omega) (by simpa using h)
             cases b <;> simp <;> exact this
        have : ((fl.take x).filter id).length ≠ c := by
         rcases Nat.lt_or_gt_of_ne hix with h | h
         ·have := hmono fl i x h hb; omega
         ·have := hmono fl x i h hx; omega
        omega
      ·have : c < (fl.filter id).length := by
        have hm : ∀ (fl' : List Bool) (x : Nat), fl'.getD x false = true → ((fl'.take x).filter id).length < (fl'.filter id).length := by
         intro fl'
         induction fl' with
         | nil => intro x h; cases h
         | cons b fl' ih =>
           intro x h
           cases x with
           | zero => simp at h; subst h; simp
           | succ x =>
             have := ih x (by simpa using h)
             cases b <;> simp <;> exact this
        have := hm fl i hb
        omega
       omega
def lastG (g : Prop) : List Oper → Prop
 | [] => g
 | _ :: _ => True
def PremS (P : Program) (n : Nat) (K : TK) (g : Prop) (all : Array Oper) (full : Env) (H0 : Heap) : List Oper → List (SV × Bool) → Prop
 | [], [] => True
 | o :: l, (v, _) :: t => (∀ env, TO false P n all [o] (pickE full (slotsOf all o) ++ env) H0 (NKP K (lastG g l) (putE o.dst v (pickE full (slotsOf all o) ++ env)) H0)) ∧ PremS P n K g all full H0 l t
 | _, _ => False
theorem PremS.get {n : Nat} {K : TK} {g : Prop} {full : Env} {H0 : Heap} : ∀ {l : List Oper} {t : List (SV × Bool)}, PremS P n K g all full H0 l t → l.length = t.length ∧ ∀ (i : Nat) o v b, l[i]? = some o → t[i]? = some (v, b) →
  ∀ env, TO false P n all [o] (pickE full (slotsOf all o) ++ env) H0 (NKP K (lastG g (l.drop (i + 1))) (putE o.dst v (pickE full (slotsOf all o) ++ env)) H0)
 | [], [], _ => ⟨rfl, fun i o v b h => by simp at h⟩
 | [], _ :: _, h => h.elim
 | _ :: _, [], h => h.elim
 | o :: l, (v, b) :: t, h => by
   obtain ⟨h1, h2⟩ := h
   obtain ⟨g1, g2⟩ := PremS.get h2
   refine ⟨by simp [g1], fun i o' v' b' ho hv => ?_⟩
   cases i with
   | zero => simp at ho hv; obtain ⟨rfl, rfl⟩ := hv; subst ho; exact h1
   | succ i => exact g2 i o' v' b' (by simpa using ho) (by simpa using hv)
theorem TR.regionS {g : Prop} {n : Nat} {env0 envF : Env} {H0 : Heap} {K : TK} {id' : Nat} {l : List Oper} (t : List (SV × Bool)) (hm : P.follows .mixedOrders = true) (hB : mixB l.toArray (t.map (·.2)) = true)
  (hp : PremS P n K g l.toArray (fullE l.toArray (t.map (·.1)) env0) H0 l t) (hE : forceL (fullE l.toArray (t.map (·.1)) env0) = some envF) (hne : 0 < l.length) (hK : g → K .normal envF H0) :
  TR P n (.region id' l.toArray true) env0 H0 K := by
 obtain ⟨g1, g2⟩ := hp.get
 intro φ m a h1 h2 h3 h4
 let hs := List.replicate (((t.map (·.2)).filter id).length + 1) H0
 have hsg : ∀ (c : Nat) H, hs[c]? = some H → H = H0 := by
  intro c H h
  rw [List.getElem?_replicate] at h
  split at h
  ·cases h; rfl
  ·cases h
 have hsi : ∀ c : Nat, c ≤ ((t.map (·.2)).filter id).length → hs[c]? = some H0 := by
  intro c hc
  rw [List.getElem?_replicate, if_pos (by omega)]
 have s0 : Step m ⟨m.A, m.β, m.H, { m.w with drawn := m.w.drawn + 1 }⟩ ∧ HRel ⟨m.A, m.β, m.H, { m.w with drawn := m.w.drawn + 1 }⟩ := keep_ok h2 ⟨rfl, rfl, rfl, Nat.le_refl _, fun _ _ => rfl⟩
 refine wpr_of_in (wpIn_region_any hm ?_)
 refine any_mixP (G := fun i => lastG g (l.drop (i + 1))) (vs := t.map (·.1)) (fl := t.map (·.2)) (hs := hs) (HF := H0) (m0 := m) hB (by simp [g1]) (by simp [g1]) ?_ ?_ (hsi _ (Nat.le_refl _)) (fun hg => by rw [forceL_eq hE] at hK; exact hK (by have := hg (l.length - 1) (by simp; omega); rw [List.drop_of_length_le (by omega)] at this; exact this)) l.toArray.size (Array.replicate l.toArray.size false)
  ⟨m.A, m.β, m.H, { m.w with drawn := m.w.drawn + 1 }⟩ a (by simp) ?_ ?_ ?_ s0.1 s0.2 ?_ (h4.step h2 s0.1)
 ·intro i o v ho hv hb c H hc env
  obtain ⟨⟨v', b⟩, hx, rfl⟩ : ∃ x, t[i]? = some x ∧ x.1 = v := by simpa using hv
  rw [hsg c H hc]
  exact g2 i o v' b (by simpa using ho) hx env
 ·intro i o v ho hv hb
  obtain ⟨⟨v', b⟩, hx, rfl⟩ : ∃ x, t[i]? = some x ∧ x.1 = v := by simpa using hv
  have hlt : (((t.map (·.2)).take i).filter id).length < ((t.map (·.2)).filter id).length := by
   have hm : ∀ (fl' : List Bool) (x : Nat), fl'.getD x false = true → ((fl'.take x).filter id).length < (fl'.filter id).length := by
    intro fl'
    induction fl' with
    | nil => intro x h; cases h
    | cons b fl' ih =>
      intro x h
      cases x with
      | zero => simp at h; subst h; simp
      | succ x =>
        have := ih x (by simpa using h)
        cases b <;> simp <;> exact this
   exact hm _ i hb
  exact ⟨H0, H0, hsi _ (by omega), hsi _ (by omega), fun env => g2 i o v' b (by simpa using ho) hx env⟩
 ·intro i hi
  rw [Array.getElem?_replicate] at hi
  split at hi <;> cases hi
 ·unfold unl
  have := List.length_filter_le (fun i => (Array.replicate l.toArray.size false)[i]? == some false) (List.range l.toArray.size)
  simpa using this
 ·refine ⟨0, fun i hi => ⟨fun h => by omega, fun h => ?_⟩, Nat.zero_le _, by rw [hsi 0 (Nat.zero_le _)]; simp [h1], fun j h => ?_⟩
  all_goals
   rw [Array.getElem?_replicate] at h
   split at h <;> cases h
 ·have : envA l.toArray (t.map (·.1)) (fun i => (Array.replicate l.toArray.size false).getD i false) (List.range l.toArray.size) = [] := by
   have : ∀ x : List Nat, envA l.toArray (t.map (·.1)) (fun i => (Array.replicate l.toArray.size false).getD i false) x = [] := by
    intro x
    induction x with
    | nil => rfl
    | cons i x ih =>
      have : (Array.replicate l.toArray.size false).getD i false = false := by
       rw [Array.getD_eq_getD_getElem?, Array.getElem?_replicate]
       split <;> rfl
      simp only [envA, this, ih]
   exact this _
  rw [this, List.nil_append]
  exact h3.step h2 s0.1
end rules
end Go.TL
