import Derived.Test.YtonjiabmcbdhdaaGreatPk24
import Derived.Test.YtonjiabmcbdhdaaGreatPk29
set_option linter.unusedSimpArgs false
set_option linter.unusedVariables false
namespace Go.TL
open Go
def DeadK (K : TK) : TK
 | .panic v, env, H => K (.panic v) env (List.replicate H.length .dead)
 | e, env, H => K e env H
section rules
variable {P : Program} {n : Nat} {env : Env} {H : Heap} {K : TK}
theorem Post.dead {φ : Fm} {m : M} {e : Exit} {a : Act} {w : World} (h : Post φ m n (DeadK K) e a w) : Post φ m n K e a w := by
 obtain ⟨m2, env2, te, rfl, s, hm, he, hd, hx, hk⟩ := h
 cases te with
 | normal => exact ⟨m2, env2, .normal, rfl, s, hm, he, hd, hx, hk⟩
 | exit i => exact ⟨m2, env2, .exit i, rfl, s, hm, he, hd, hx, hk⟩
 | ret => exact ⟨m2, env2, .ret, rfl, s, hm, he, hd, hx, hk⟩
 | panic v =>
   obtain ⟨s1, hm1⟩ := dead_ok hm
   refine ⟨⟨m2.A, m2.β, m2.H.map fun _ => .dead, m2.w⟩, env2, .panic v, rfl, s.trans s1, hm1, he.step hm s1, hd, ?_, ?_⟩
   ·cases e with
    | panic ch => obtain ⟨x, x1, x2⟩ := hx; exact ⟨x, x1, s1.srel hm x2⟩
    | _ => simp [ExRel] at hx
   ·show K (.panic v) env2 (m2.H.map fun _ => Blk.dead)
    rw [List.map_const']; exact hk
theorem TR.dead {c : Code} (h : TR P n c env H (DeadK K)) : TR P n c env H K :=
 fun φ m a h1 h2 h3 h4 => wpr_mono (h φ m a h1 h2 h3 h4) fun _ _ _ hp => hp.dead
theorem DeadK.normal (h : K .normal env H) : DeadK K .normal env H := h
theorem DeadK.ret (h : K .ret env H) : DeadK K .ret env H := h
theorem DeadK.errP {tab : Tab} {rs : List ResultVar} {N : Nat} {c : Int} {v pv : SV} {H1 : Heap} (hc : c ≠ 0) (hN : N ≤ H.length) (hu : ∀ k, pv.under k = true) : DeadK (RetK tab rs N (Err0 c v pv H1 N)) (.panic pv) env H :=
 RetK.errP (tab := tab) (rs := rs) (N := N) (env := env) (H := List.replicate H.length .dead) hc (by simpa using hN) (hu _) (by rw [List.length_replicate]; exact blksUnder_dead _ _)
end rules
end Go.TL
namespace Go.Proofs.YtonjiabmcbdhdaaGreat
open Go Go.TL
attribute [local irreducible] TR TO Then InBlock RetK Sound LoopK Kf GG ThenL
abbrev failS (n q c : Int) : SV := .ifc 88 (.t (.ag [T.i n, T.i q, T.i c]))
theorem mustS_ok (p : Prog) (n q : Int) (seen : List (Int × Str × Int)) (e : Int) : Sound Tryz.prog 75 [.ref 0 0, .b true, .i e] [lkB p n q, seenB seen] (fun r H' => r = .ret (.tup []) ∧ H' = [lkB p n q, seenB seen]) := by
 refine Sound.of tabOk Tryz.func75 (by kernel_rfl) rfl rfl ?_
 repeat' (first | refine wkt ?_ | refine wk ?_ | exact wkc | intro hc | refine wk2 ?_ ?_ | fail)
 exact RetK.keepN 2 (vs := []) rfl (Le.refl _) rfl rfl rfl rfl rfl ⟨rfl, rfl⟩
theorem mustS_no (p : Prog) (n q : Int) (seen : List (Int × Str × Int)) (e : Int) (he : e ≠ 0) : Sound Tryz.prog 75 [.ref 0 0, .b false, .i e] [lkB p n q, seenB seen] (Err e (.tup []) (failS n q e) [lkB p n q, seenB seen]) := by
 refine Sound.err rfl (fun _ => rfl) ?_
 refine Sound.of tabOk Tryz.func75 (by kernel_rfl) rfl rfl ?_
 repeat' (first | refine wkt ?_ | refine wk ?_ | exact wkc | intro hc | refine wk2 ?_ ?_ | (apply TO.makeInterface; exact rfl; kernel_rfl; exact rfl) | (apply TO.panic; exact rfl) | fail)
 exact RetK.errP he rfl rfl rfl
theorem Ch.len (h : Ch) (p : Prog) (n q : Int) (seen : List (Int × Str × Int)) : (full p n q seen h).length = h.N := by cases h <;> rfl
theorem Ch.under (h : Ch) (p : Prog) (n q : Int) (seen : List (Int × Str × Int)) : blksUnder h.N (full p n q seen h) = true := by cases h <;> rfl
theorem Ch.ge (h : Ch) : 5 ≤ h.N := by cases h <;> simp [Ch.N]
theorem Ch.tk (h : Ch) (p : Prog) (n q : Int) (seen : List (Int × Str × Int)) : (full p n q seen h).take h.N = full p n q seen h := List.take_of_length_le (by rw [Ch.len]; exact Nat.le_refl _)
theorem Ch.tkl (h : Ch) (p : Prog) (n q : Int) (seen : List (Int × Str × Int)) : (full p n q seen h).take (full p n q seen h).length = full p n q seen h := List.take_of_length_le (Nat.le_refl _)
theorem Ch.und (h : Ch) (p : Prog) (n q : Int) (seen : List (Int × Str × Int)) : blksUnder (full p n q seen h).length (full p n q seen h) = true := by rw [Ch.len]; exact Ch.under h p n q seen
theorem Ch.ble (h : Ch) (p : Prog) (n q : Int) (seen : List (Int × Str × Int)) : Nat.ble (full p n q seen h).length (full p n q seen h).length = true := by simp
section
variable {n : Nat} {env : Env} {K : TK} {all : Array Oper} {rest : List Oper} {d : Nat} {ty : TypeId} {pos : String} {aft : Array Edge} {p : Prog} {a q e : Int} {seen : List (Int × Str × Int)} {H Hr : Heap} {args : Array Operand} {ts : Array TypeId}
theorem TO.mustST (hd : Nat.ble (d + 1) n = true) (ha : env.vals args.toList = some [.ref 0 0, .b true, .i e]) (h1 : H = lkB p a q :: seenB seen :: Hr) (k : TO false Tryz.prog n all rest ((d, .tup []) :: env) H K) :
  TO false Tryz.prog n all (⟨some d, .call { callee := .value (.func 75), args := args, argTypes := ts }, ty, pos, aft, none⟩ :: rest) env H K := by
 subst h1
 exact TO.callD 2 (mustS_ok p a q seen e) hd rfl ha ⟨Le.refl _, Le.refl _, Le.refl _, trivial⟩ (by simp) rfl rfl rfl rfl rfl rfl (by simp [forceL_self]) k
theorem TO.mustSF (hd : Nat.ble (d + 1) n = true) (ha : env.vals args.toList = some [.ref 0 0, .b false, .i e]) (h1 : H = lkB p a q :: seenB seen :: Hr) (he : e ≠ 0) (k : K (.panic (failS a q e)) env (.dead :: .dead :: Hr)) :
  TO false Tryz.prog n all (⟨some d, .call { callee := .value (.func 75), args := args, argTypes := ts }, ty, pos, aft, none⟩ :: rest) env H K := by
 subst h1
 exact TO.callEN 2 (mustS_no p a q seen e he) hd rfl ha ⟨Le.refl _, Le.refl _, Le.refl _, trivial⟩ (by simp) rfl rfl rfl rfl rfl rfl rfl (by simp [forceL_self]; rfl) (fun h => absurd h he) (fun _ => k)
theorem TO.callDb (N : Nat) {Hc : Heap} {cargs : List SV} {b : Bool} {f : Operand} {fid : FuncId} {caps : List SV} {vs : List SV}
  (hs : Sound Tryz.prog fid cargs Hc fun r H' => r = .ret (.b b) ∧ H' = Hc) (hd : Nat.ble (d + 1) n = true) (hf : env.val f = some (.fn fid caps)) (ha : env.vals args.toList = some vs) (hl : Les (vs ++ caps) cargs)
  (hN : N ≤ H.length) (hc : H.take N = Hc) (hu : unders N cargs = true) (hb : blksUnder N Hc = true)
  (k1 : b = true → TO false Tryz.prog n all rest ((d, .b true) :: env) H K) (k2 : b = false → TO false Tryz.prog n all rest ((d, .b false) :: env) H K) :
  TO false Tryz.prog n all (⟨some d, .call { callee := .value f, args := args, argTypes := ts }, ty, pos, aft, none⟩ :: rest) env H K := by
 have hl1 : Hc.length = N := by rw [← hc]; simp; omega
 refine TO.callD N hs hd hf ha hl (by simpa using hN) hc hu hb rfl hl1 hb (H' := H) (by rw [← hc, List.take_append_drop, forceL_self]) ?_
 cases b
 ·exact k2 rfl
 ·exact k1 rfl
theorem TO.sees {h : Ch} {nm : Str} (hk : h.ok) (hd : Nat.ble (d + 1) n = true) (ha : env.vals args.toList = some [.ref h.id 0, .s nm]) (hH : H.take h.N = full p a q seen h) (hs : nm.length ≤ 1000000000)
  (k1 : nm ∈ h.vis → TO false Tryz.prog n all rest ((d, .b true) :: env) H K) (k2 : nm ∉ h.vis → TO false Tryz.prog n all rest ((d, .b false) :: env) H K) :
  TO false Tryz.prog n all (⟨some d, .call { callee := .value (.func 123), args := args, argTypes := ts }, ty, pos, aft, none⟩ :: rest) env H K := by
 have hN : h.N ≤ H.length := by have := congrArg List.length hH; rw [Ch.len] at this; simp at this; omega
 refine TO.callDb h.N (sees_sound p a q seen h hk nm hs) hd rfl ha ⟨Le.refl _, Le.refl _, trivial⟩ hN hH ?_ (Ch.under h p a q seen) (fun hb => k1 (by simpa using hb)) (fun hb => k2 (by simpa using hb))
 cases h <;> rfl
theorem TO.defined {h : Ch} {nm : Str} (hk : h.ok) (hd : Nat.ble (d + 1) n = true) (ha : env.vals args.toList = some [.ref h.id 0, .s nm]) (hH : H.take h.N = full p a q seen h) (hs : nm.length ≤ 1000000000)
  (k1 : (nm ∈ h.low ∨ nm ∈ h.top.done) → TO false Tryz.prog n all rest ((d, .b true) :: env) H K) (k2 : ¬ (nm ∈ h.low ∨ nm ∈ h.top.done) → TO false Tryz.prog n all rest ((d, .b false) :: env) H K) :
  TO false Tryz.prog n all (⟨some d, .call { callee := .value (.func 124), args := args, argTypes := ts }, ty, pos, aft, none⟩ :: rest) env H K := by
 have hN : h.N ≤ H.length := by have := congrArg List.length hH; rw [Ch.len] at this; simp at this; omega
 refine TO.callDb h.N (defined_sound p a q seen h hk nm hs) hd rfl ha ⟨Le.refl _, Le.refl _, trivial⟩ hN hH ?_ (Ch.under h p a q seen) (fun hb => k1 (by simpa using hb)) (fun hb => k2 (by simpa using hb))
 cases h <;> rfl
end
theorem wms {G Q : Prop} (k : Q) (h : Hold Q → G := by
  intro k
  first
  | (apply Go.Proofs.YtonjiabmcbdhdaaGreat.TO.mustST; exact rfl; exact rfl; exact rfl; exact k.p)
  | (apply Go.Proofs.YtonjiabmcbdhdaaGreat.TO.mustSF; exact rfl; exact rfl; exact rfl; decide; exact k.p)
  | (apply Go.Proofs.YtonjiabmcbdhdaaGreat.TO.mustSF; exact rfl; exact rfl; exact rfl; assumption; exact k.p)) : G := h ⟨k⟩
abbrev SS (f : FuncId) (args : List SV) (p : Prog) (n q : Int) (seen : List (Int × Str × Int)) (h h' : Ch) (c : Int) : Prop := Sound Tryz.prog f (.ref 0 0 :: args) (full p n q seen h) (Err c (.tup []) (failS n q c) (full p n q seen h'))
theorem retS {rs : List ResultVar} {env : Env} {H H1 : Heap} {n q c c' : Int} {N : Nat} {v : SV} (h0 : c' ≠ 0) (hc : c' = c) (hN : N ≤ H.length) :
  DeadK (RetK tab rs N (Err0 c v (failS n q c) H1 N)) (.panic (failS n q c')) env H := by
 subst hc; exact DeadK.errP h0 hN (fun _ => rfl)
theorem retSN {env : Env} {H H1 : Heap} {n q c : Int} {N : Nat} (hc : c = 0) (hN : Nat.ble N H1.length = true) (hk : Nat.ble H1.length H.length = true) (ht : H.take H1.length = H1) (hb : blksUnder H1.length H1 = true) :
  DeadK (RetK tab [] N (Err0 c (.tup []) (failS n q c) H1 N)) .normal env H := RetK.errN (vs := []) hc rfl (Le.refl _) hN hk rfl ht hb
def samplE (vis : List Str) (l : List Decl) : Int := firstE (fun d => firstE (fun o : OnC => if o.name ∈ vis then 0 else 6) d.clock) l
theorem name_decl {l : List Decl} {d : Decl} (h : d ∈ l) : d.name.length < (declsT l).w ∧ (T.sl 3 (d.clock.map onT)).w < (declsT l).w := by
 have := w_inM (f := declT) (sz := 3) h
 rw [show declT d = .ag (declC d) from rfl, w_ag] at this
 simp only [declC, List.map_cons, List.map_nil, List.sum_cons, List.sum_nil, w_s] at this
 have h2 : (declsT l).w = (T.sl 3 (l.map declT)).w := rfl
 omega
theorem name_on {l : List OnC} {o : OnC} (h : o ∈ l) : o.name.length < (T.sl 3 (l.map onT)).w := by
 have := w_inM (f := onT) (sz := 3) h
 rw [onT, w_ag] at this
 simp only [List.map_cons, List.map_nil, List.sum_cons, List.sum_nil, w_s] at this
 omega
theorem sampl_sound (p : Prog) (n q : Int) (seen : List (Int × Str × Int)) (h : Ch) (hk : h.ok) (l : List Decl) (hw : (declsT l).w ≤ 1000000000) : SS 78 [.ref h.id 0, .t (declsT l)] p n q seen h h (samplE h.vis l) := by
 have hml : (l.map declT).length = l.length := List.length_map _
 have hlb : l.length ≤ 1000000000 := Nat.le_trans (Nat.le_of_lt (w_lenM declT 3 l)) hw
 unfold samplE
 refine Sound.err rfl (fun _ => rfl) ?_
 refine Sound.of tabOk Tryz.func78 (by kernel_rfl) rfl rfl ?_
 refine TR.dead ?_
 repeat' (first | refine wkt ?_ | refine wk ?_ | exact wkc | intro hc | refine wk2 ?_ ?_ | fail)
 refine TR.loopN l.length (fun k => firstE (fun d => firstE (fun o : OnC => if o.name ∈ h.vis then 0 else 6) d.clock) (l.take k) = 0) (fun k => [(0, .ref 0 0), (1, .ref h.id 0), (10, .t (declsT l)), (11, .i (l.map declT).length), (12, .i k)]) (fun _ => full p n q seen h) rfl (fun k hlt ha => ?_) (fun ha => ?_)
 ·have hx := at_decl hlt
  have g1 := firstE_at (f := fun d => firstE (fun o : OnC => if o.name ∈ h.vis then 0 else 6) d.clock) hlt ha
  have g2 := firstE_next (f := fun d => firstE (fun o : OnC => if o.name ∈ h.vis then 0 else 6) d.clock) hlt ha
  have hwx := (name_decl (List.getElem_mem hlt)).2
  generalize l[k] = x at *
  have hlc := w_lenM onT 3 x.clock
  have hmo : (x.clock.map onT).length = x.clock.length := List.length_map _
  unfold declC at hx
  repeat' (first | refine wkt ?_ | refine wk ?_ | exact wkc | intro hc | refine wk2 ?_ ?_ | fail)
  refine TR.loopN x.clock.length (fun j => firstE (fun o : OnC => if o.name ∈ h.vis then 0 else 6) (x.clock.take j) = 0) (fun j => [(0, .ref 0 0), (1, .ref h.id 0), (10, .t (declsT l)), (11, .i (l.map declT).length), (12, .i k), (17, .t (.sl 3 (x.clock.map onT))), (18, .i (x.clock.map onT).length), (19, .i j)]) (fun _ => full p n q seen h) rfl (fun j hlt2 ha2 => ?_) (fun ha2 => ?_)
  ·have hx2 := at_on hlt2
   have f1 := firstE_at (f := fun o : OnC => if o.name ∈ h.vis then 0 else 6) hlt2 ha2
   have f2 := firstE_next (f := fun o : OnC => if o.name ∈ h.vis then 0 else 6) hlt2 ha2
   have hno : x.clock[j].name.length ≤ 1000000000 := by have := name_on (List.getElem_mem hlt2); omega
   generalize x.clock[j] = o at *
   repeat' (first | refine wkt ?_ | refine wka ?_ | refine wkD ?_ | refine wk ?_ | exact wkc | intro hc | refine wk2 ?_ ?_ | (apply TO.setGet; exact rfl; exact rfl; exact rfl; exact rfl; assumption; assumption) | (apply TO.nilGet; exact rfl; exact rfl; exact rfl; assumption) | (apply TO.setPut; exact rfl; exact rfl; exact rfl; exact rfl; assumption; assumption; exact rfl) | refine wms ?_ | (apply TO.sees hk; exact rfl; exact rfl; (first | exact rfl | exact Ch.tk _ _ _ _ _); assumption) | (apply TO.defined hk; exact rfl; exact rfl; (first | exact rfl | exact Ch.tk _ _ _ _ _); assumption) | fail | fail)
   ·exact LoopK.nextN hlt2 (f2 (by rw [if_pos hc]))
   ·((repeat' (first | refine LoopK.panic ?_ | refine wk ?_ | fail)); apply retS; (first | assumption | decide); (clear hx; first | grind | grind [orE]); (first | exact Nat.le_of_ble_eq_true rfl | exact Nat.le_refl _ | (simp [Ch.len]; done) | (simp [Ch.len]; omega)))
  ·have e1 := firstE_all ha2
   refine wk ?_
   repeat' (first | refine wkt ?_ | refine wk ?_ | exact wkc | intro hc | refine wk2 ?_ ?_ | fail)
   exact LoopK.nextN hlt (g2 e1)
 ·have e1 := firstE_all ha
  repeat' (first | refine wkt ?_ | refine wk ?_ | exact wkc | intro hc | refine wk2 ?_ ?_ | fail)
  exact retSN e1 (Ch.ble _ _ _ _ _) (Ch.ble _ _ _ _ _) (Ch.tkl _ _ _ _ _) (Ch.und _ _ _ _ _)
def foldS {α β : Type} (f : β → α → β × Int) : β → List α → β × Int
 | a, [] => (a, 0)
 | a, x :: l => if (f a x).2 = 0 then foldS f (f a x).1 l else f a x
theorem foldS_append {α β : Type} (f : β → α → β × Int) : ∀ (l r : List α) (a : β), foldS f a (l ++ r) = if (foldS f a l).2 = 0 then foldS f (foldS f a l).1 r else foldS f a l
 | [], r, a => by simp [foldS]
 | x :: l, r, a => by
   simp only [List.cons_append, foldS]
   by_cases h : (f a x).2 = 0
   ·simp only [h, if_true]; exact foldS_append f l r _
   ·simp [h]
theorem foldS_next {α β : Type} {f : β → α → β × Int} {a : β} {l : List α} {k : Nat} (hk : k < l.length) (h : (foldS f a (l.take k)).2 = 0) : foldS f a (l.take (k + 1)) = f (foldS f a (l.take k)).1 l[k] := by
 rw [List.take_succ_eq_append_getElem hk, foldS_append, if_pos h, foldS]
 split
 ·rename_i h2
  generalize f (foldS f a (l.take k)).1 l[k] = z at *
  obtain ⟨z1, z2⟩ := z
  simp only at h2; subst h2; rfl
 ·rfl
theorem foldS_at {α β : Type} {f : β → α → β × Int} {a : β} {l : List α} {k : Nat} (hk : k < l.length) (h : (foldS f a (l.take k)).2 = 0) (hn : (f (foldS f a (l.take k)).1 l[k]).2 ≠ 0) : foldS f a l = f (foldS f a (l.take k)).1 l[k] := by
 conv => lhs; rw [← List.take_append_drop k l]
 rw [foldS_append, if_pos h, List.drop_eq_getElem_cons hk, foldS, if_neg hn]
def Lv.addOwn (a : Lv) (s : Str) : Lv := { a with own := ins a.own s }
theorem Lv.ok.addOwn {a : Lv} (h : a.ok) {s : Str} (hs : s.length ≤ 1000000000) : (a.addOwn s).ok := ⟨h.own.ins hs, h.done⟩
def declF (seen : List (Int × Str × Int)) (vis0 : List Str) (a : Lv) (d : Decl) : Lv × Int := (a.addOwn d.name, if (seenGet seen 0 d.name).isSome = true ∨ d.name ∈ vis0 ++ a.own then 7 else 0)
def declS (seen : List (Int × Str × Int)) (vis0 : List Str) (a : Lv) (l : List Decl) : Lv × Int := foldS (declF seen vis0) a l
theorem Ch.ok_top {h : Ch} (hk : h.ok) : h.top.ok := by
 cases h
 case one => exact hk
 case c1 => exact hk.2
 case c2 => exact hk.2.2
 case c3 => exact hk.2.2.2
 case c4 => exact hk.2.2.2.2
theorem Ch.ok_set {h : Ch} (hk : h.ok) {x : Lv} (hx : x.ok) : (h.set x).ok := by
 cases h
 case one => exact hx
 case c1 => exact ⟨hk.1, hx⟩
 case c2 => exact ⟨hk.1, hk.2.1, hx⟩
 case c3 => exact ⟨hk.1, hk.2.1, hk.2.2.1, hx⟩
 case c4 => exact ⟨hk.1, hk.2.1, hk.2.2.1, hk.2.2.2.1, hx⟩
@[simp] theorem Ch.set_set (h : Ch) (x y : Lv) : (h.set x).set y = h.set y := by cases h <;> rfl
theorem declare_sound (p : Prog) (n q : Int) (seen : List (Int × Str × Int)) (hse : SeenOk seen) (h : Ch) (hk0 : h.ok) (l : List Decl) (hw : (declsT l).w ≤ 1000000000) :
  SS 77 [.ref h.id 0, .t (declsT l)] p n q seen h (h.set (declS seen h.vis0 h.top l).1) (declS seen h.vis0 h.top l).2 := by
 have hml : (l.map declT).length = l.length := List.length_map _
 have hlb : l.length ≤ 1000000000 := Nat.le_trans (Nat.le_of_lt (w_lenM declT 3 l)) hw
 unfold declS
 have ht0 := Ch.ok_top hk0
 have hset := fun {x : Lv} (hx : x.ok) => Ch.ok_set hk0 hx
 clear hk0
 cases h
 case one a =>
  simp only [Ch.top, Ch.set, Ch.vis0, Ch.id] at *
  refine Sound.err rfl (fun _ => rfl) ?_
  refine Sound.of tabOk Tryz.func77 (by kernel_rfl) rfl rfl ?_
  refine TR.dead ?_
  repeat' (first | refine wkt ?_ | refine wk ?_ | exact wkc | intro hc | refine wk2 ?_ ?_ | fail)
  refine TR.loopN l.length (fun k => (foldS (declF seen []) a (l.take k)).2 = 0 ∧ (foldS (declF seen []) a (l.take k)).1.ok) (fun k => [(0, .ref 0 0), (1, .ref 4 0), (10, .t (declsT l)), (11, .i (l.map declT).length), (12, .i k)]) (fun k => full p n q seen (Ch.one (foldS (declF seen []) a (l.take k)).1)) ⟨rfl, ht0⟩ (fun k hlt ha => ?_) (fun ha => ?_)
  ·have hx := at_decl hlt
   have hno : l[k].name.length ≤ 1000000000 := by have := (name_decl (List.getElem_mem hlt)).1; omega
   have g1 := foldS_at (f := (declF seen [])) hlt ha.1
   have g2 := foldS_next (f := (declF seen [])) hlt ha.1
   obtain ⟨ha1, ha2⟩ := ha
   generalize (foldS (declF seen []) a (l.take k)).1 = st at *
   generalize l[k] = x at *
   have hk := hset ha2
   have hown := ha2.own
   have hz : ((declF seen []) st x).2 = if (seenGet seen 0 x.name).isSome = true ∨ x.name ∈ [] ++ st.own then 7 else 0 := rfl
   have hz1 : ((declF seen []) st x).1 = st.addOwn x.name := rfl
   have hok := ha2.addOwn hno
   generalize (declF seen []) st x = fx at *
   unfold declC at hx
   repeat' (first | refine wkt ?_ | refine wka ?_ | refine wkD ?_ | refine wk ?_ | exact wkc | intro hc | refine wk2 ?_ ?_ | (apply TO.setGet; exact rfl; exact rfl; exact rfl; exact rfl; assumption; assumption) | (apply TO.nilGet; exact rfl; exact rfl; exact rfl; assumption) | (apply TO.setPut; exact rfl; exact rfl; exact rfl; exact rfl; assumption; assumption; exact rfl) | refine wms ?_ | (apply TO.sees hk; exact rfl; exact rfl; (first | exact rfl | exact Ch.tk _ _ _ _ _); assumption) | (apply TO.defined hk; exact rfl; exact rfl; (first | exact rfl | exact Ch.tk _ _ _ _ _); assumption) | (apply TO.seenLook; exact rfl; exact rfl; exact rfl; exact rfl; assumption; decide; assumption) | fail)
   all_goals simp only [Ch.vis, Ch.vis0, Ch.top] at *
   all_goals first
    | ((repeat' (first | refine LoopK.panic ?_ | refine wk ?_ | fail)); apply retS; (first | assumption | decide); (clear hx; first | grind | grind [orE]); (first | exact Nat.le_of_ble_eq_true rfl | exact Nat.le_refl _ | (simp [Ch.len]; done) | (simp [Ch.len]; omega)))
    | (refine LoopK.nextN hlt ⟨by rw [g2]; clear hx; grind, by rw [g2, hz1]; exact hok⟩ ?_ (by rw [g2, hz1]; rfl)
       repeat' (first | exact trivial | refine And.intro rfl ?_ | fail))
  ·obtain ⟨ha1, ha2⟩ := ha
   rw [List.take_length] at *
   repeat' (first | refine wkt ?_ | refine wk ?_ | exact wkc | intro hc | refine wk2 ?_ ?_ | fail)
   exact retSN ha1 rfl rfl rfl rfl
 case c1 i a =>
  simp only [Ch.top, Ch.set, Ch.vis0, Ch.id] at *
  refine Sound.err rfl (fun _ => rfl) ?_
  refine Sound.of tabOk Tryz.func77 (by kernel_rfl) rfl rfl ?_
  refine TR.dead ?_
  repeat' (first | refine wkt ?_ | refine wk ?_ | exact wkc | intro hc | refine wk2 ?_ ?_ | fail)
  refine TR.loopN l.length (fun k => (foldS (declF seen []) a (l.take k)).2 = 0 ∧ (foldS (declF seen []) a (l.take k)).1.ok) (fun k => [(0, .ref 0 0), (1, .ref 4 0), (10, .t (declsT l)), (11, .i (l.map declT).length), (12, .i k)]) (fun k => full p n q seen (Ch.c1 i (foldS (declF seen []) a (l.take k)).1)) ⟨rfl, ht0⟩ (fun k hlt ha => ?_) (fun ha => ?_)
  ·have hx := at_decl hlt
   have hno : l[k].name.length ≤ 1000000000 := by have := (name_decl (List.getElem_mem hlt)).1; omega
   have g1 := foldS_at (f := (declF seen [])) hlt ha.1
   have g2 := foldS_next (f := (declF seen [])) hlt ha.1
   obtain ⟨ha1, ha2⟩ := ha
   generalize (foldS (declF seen []) a (l.take k)).1 = st at *
   generalize l[k] = x at *
   have hk := hset ha2
   have hown := ha2.own
   have hz : ((declF seen []) st x).2 = if (seenGet seen 0 x.name).isSome = true ∨ x.name ∈ [] ++ st.own then 7 else 0 := rfl
   have hz1 : ((declF seen []) st x).1 = st.addOwn x.name := rfl
   have hok := ha2.addOwn hno
   generalize (declF seen []) st x = fx at *
   unfold declC at hx
   repeat' (first | refine wkt ?_ | refine wka ?_ | refine wkD ?_ | refine wk ?_ | exact wkc | intro hc | refine wk2 ?_ ?_ | (apply TO.setGet; exact rfl; exact rfl; exact rfl; exact rfl; assumption; assumption) | (apply TO.nilGet; exact rfl; exact rfl; exact rfl; assumption) | (apply TO.setPut; exact rfl; exact rfl; exact rfl; exact rfl; assumption; assumption; exact rfl) | refine wms ?_ | (apply TO.sees hk; exact rfl; exact rfl; (first | exact rfl | exact Ch.tk _ _ _ _ _); assumption) | (apply TO.defined hk; exact rfl; exact rfl; (first | exact rfl | exact Ch.tk _ _ _ _ _); assumption) | (apply TO.seenLook; exact rfl; exact rfl; exact rfl; exact rfl; assumption; decide; assumption) | fail)
   all_goals simp only [Ch.vis, Ch.vis0, Ch.top] at *
   all_goals first
    | ((repeat' (first | refine LoopK.panic ?_ | refine wk ?_ | fail)); apply retS; (first | assumption | decide); (clear hx; first | grind | grind [orE]); (first | exact Nat.le_of_ble_eq_true rfl | exact Nat.le_refl _ | (simp [Ch.len]; done) | (simp [Ch.len]; omega)))
    | (refine LoopK.nextN hlt ⟨by rw [g2]; clear hx; grind, by rw [g2, hz1]; exact hok⟩ ?_ (by rw [g2, hz1]; rfl)
       repeat' (first | exact trivial | refine And.intro rfl ?_ | fail))
  ·obtain ⟨ha1, ha2⟩ := ha
   rw [List.take_length] at *
   repeat' (first | refine wkt ?_ | refine wk ?_ | exact wkc | intro hc | refine wk2 ?_ ?_ | fail)
   exact retSN ha1 rfl rfl rfl rfl
 case c2 i a b =>
  simp only [Ch.top, Ch.set, Ch.vis0, Ch.id] at *
  refine Sound.err rfl (fun _ => rfl) ?_
  refine Sound.of tabOk Tryz.func77 (by kernel_rfl) rfl rfl ?_
  refine TR.dead ?_
  repeat' (first | refine wkt ?_ | refine wk ?_ | exact wkc | intro hc | refine wk2 ?_ ?_ | fail)
  refine TR.loopN l.length (fun k => (foldS (declF seen a.own) b (l.take k)).2 = 0 ∧ (foldS (declF seen a.own) b (l.take k)).1.ok) (fun k => [(0, .ref 0 0), (1, .ref 9 0), (10, .t (declsT l)), (11, .i (l.map declT).length), (12, .i k)]) (fun k => full p n q seen (Ch.c2 i a (foldS (declF seen a.own) b (l.take k)).1)) ⟨rfl, ht0⟩ (fun k hlt ha => ?_) (fun ha => ?_)
  ·have hx := at_decl hlt
   have hno : l[k].name.length ≤ 1000000000 := by have := (name_decl (List.getElem_mem hlt)).1; omega
   have g1 := foldS_at (f := (declF seen a.own)) hlt ha.1
   have g2 := foldS_next (f := (declF seen a.own)) hlt ha.1
   obtain ⟨ha1, ha2⟩ := ha
   generalize (foldS (declF seen a.own) b (l.take k)).1 = st at *
   generalize l[k] = x at *
   have hk := hset ha2
   have hown := ha2.own
   have hz : ((declF seen a.own) st x).2 = if (seenGet seen 0 x.name).isSome = true ∨ x.name ∈ a.own ++ st.own then 7 else 0 := rfl
   have hz1 : ((declF seen a.own) st x).1 = st.addOwn x.name := rfl
   have hok := ha2.addOwn hno
   generalize (declF seen a.own) st x = fx at *
   unfold declC at hx
   repeat' (first | refine wkt ?_ | refine wka ?_ | refine wkD ?_ | refine wk ?_ | exact wkc | intro hc | refine wk2 ?_ ?_ | (apply TO.setGet; exact rfl; exact rfl; exact rfl; exact rfl; assumption; assumption) | (apply TO.nilGet; exact rfl; exact rfl; exact rfl; assumption) | (apply TO.setPut; exact rfl; exact rfl; exact rfl; exact rfl; assumption; assumption; exact rfl) | refine wms ?_ | (apply TO.sees hk; exact rfl; exact rfl; (first | exact rfl | exact Ch.tk _ _ _ _ _); assumption) | (apply TO.defined hk; exact rfl; exact rfl; (first | exact rfl | exact Ch.tk _ _ _ _ _); assumption) | (apply TO.seenLook; exact rfl; exact rfl; exact rfl; exact rfl; assumption; decide; assumption) | fail)
   all_goals simp only [Ch.vis, Ch.vis0, Ch.top] at *
   all_goals first
    | ((repeat' (first | refine LoopK.panic ?_ | refine wk ?_ | fail)); apply retS; (first | assumption | decide); (clear hx; first | grind | grind [orE]); (first | exact Nat.le_of_ble_eq_true rfl | exact Nat.le_refl _ | (simp [Ch.len]; done) | (simp [Ch.len]; omega)))
    | (refine LoopK.nextN hlt ⟨by rw [g2]; clear hx; grind, by rw [g2, hz1]; exact hok⟩ ?_ (by rw [g2, hz1]; rfl)
       repeat' (first | exact trivial | refine And.intro rfl ?_ | fail))
  ·obtain ⟨ha1, ha2⟩ := ha
   rw [List.take_length] at *
   repeat' (first | refine wkt ?_ | refine wk ?_ | exact wkc | intro hc | refine wk2 ?_ ?_ | fail)
   exact retSN ha1 rfl rfl rfl rfl
 case c3 i a b c =>
  simp only [Ch.top, Ch.set, Ch.vis0, Ch.id] at *
  refine Sound.err rfl (fun _ => rfl) ?_
  refine Sound.of tabOk Tryz.func77 (by kernel_rfl) rfl rfl ?_
  refine TR.dead ?_
  repeat' (first | refine wkt ?_ | refine wk ?_ | exact wkc | intro hc | refine wk2 ?_ ?_ | fail)
  refine TR.loopN l.length (fun k => (foldS (declF seen (a.own ++ b.own)) c (l.take k)).2 = 0 ∧ (foldS (declF seen (a.own ++ b.own)) c (l.take k)).1.ok) (fun k => [(0, .ref 0 0), (1, .ref 13 0), (10, .t (declsT l)), (11, .i (l.map declT).length), (12, .i k)]) (fun k => full p n q seen (Ch.c3 i a b (foldS (declF seen (a.own ++ b.own)) c (l.take k)).1)) ⟨rfl, ht0⟩ (fun k hlt ha => ?_) (fun ha => ?_)
  ·have hx := at_decl hlt
   have hno : l[k].name.length ≤ 1000000000 := by have := (name_decl (List.getElem_mem hlt)).1; omega
   have g1 := foldS_at (f := (declF seen (a.own ++ b.own))) hlt ha.1
   have g2 := foldS_next (f := (declF seen (a.own ++ b.own))) hlt ha.1
   obtain ⟨ha1, ha2⟩ := ha
   generalize (foldS (declF seen (a.own ++ b.own)) c (l.take k)).1 = st at *
   generalize l[k] = x at *
   have hk := hset ha2
   have hown := ha2.own
   have hz : ((declF seen (a.own ++ b.own)) st x).2 = if (seenGet seen 0 x.name).isSome = true ∨ x.name ∈ (a.own ++ b.own) ++ st.own then 7 else 0 := rfl
   have hz1 : ((declF seen (a.own ++ b.own)) st x).1 = st.addOwn x.name := rfl
   have hok := ha2.addOwn hno
   generalize (declF seen (a.own ++ b.own)) st x = fx at *
   unfold declC at hx
   repeat' (first | refine wkt ?_ | refine wka ?_ | refine wkD ?_ | refine wk ?_ | exact wkc | intro hc | refine wk2 ?_ ?_ | (apply TO.setGet; exact rfl; exact rfl; exact rfl; exact rfl; assumption; assumption) | (apply TO.nilGet; exact rfl; exact rfl; exact rfl; assumption) | (apply TO.setPut; exact rfl; exact rfl; exact rfl; exact rfl; assumption; assumption; exact rfl) | refine wms ?_ | (apply TO.sees hk; exact rfl; exact rfl; (first | exact rfl | exact Ch.tk _ _ _ _ _); assumption) | (apply TO.defined hk; exact rfl; exact rfl; (first | exact rfl | exact Ch.tk _ _ _ _ _); assumption) | (apply TO.seenLook; exact rfl; exact rfl; exact rfl; exact rfl; assumption; decide; assumption) | fail)
   all_goals simp only [Ch.vis, Ch.vis0, Ch.top] at *
   all_goals first
    | ((repeat' (first | refine LoopK.panic ?_ | refine wk ?_ | fail)); apply retS; (first | assumption | decide); (clear hx; first | grind | grind [orE]); (first | exact Nat.le_of_ble_eq_true rfl | exact Nat.le_refl _ | (simp [Ch.len]; done) | (simp [Ch.len]; omega)))
    | (refine LoopK.nextN hlt ⟨by rw [g2]; clear hx; grind, by rw [g2, hz1]; exact hok⟩ ?_ (by rw [g2, hz1]; rfl)
       repeat' (first | exact trivial | refine And.intro rfl ?_ | fail))
  ·obtain ⟨ha1, ha2⟩ := ha
   rw [List.take_length] at *
   repeat' (first | refine wkt ?_ | refine wk ?_ | exact wkc | intro hc | refine wk2 ?_ ?_ | fail)
   exact retSN ha1 rfl rfl rfl rfl
 case c4 i a b c d =>
  simp only [Ch.top, Ch.set, Ch.vis0, Ch.id] at *
  refine Sound.err rfl (fun _ => rfl) ?_
  refine Sound.of tabOk Tryz.func77 (by kernel_rfl) rfl rfl ?_
  refine TR.dead ?_
  repeat' (first | refine wkt ?_ | refine wk ?_ | exact wkc | intro hc | refine wk2 ?_ ?_ | fail)
  refine TR.loopN l.length (fun k => (foldS (declF seen (a.own ++ b.own ++ c.own)) d (l.take k)).2 = 0 ∧ (foldS (declF seen (a.own ++ b.own ++ c.own)) d (l.take k)).1.ok) (fun k => [(0, .ref 0 0), (1, .ref 17 0), (10, .t (declsT l)), (11, .i (l.map declT).length), (12, .i k)]) (fun k => full p n q seen (Ch.c4 i a b c (foldS (declF seen (a.own ++ b.own ++ c.own)) d (l.take k)).1)) ⟨rfl, ht0⟩ (fun k hlt ha => ?_) (fun ha => ?_)
  ·have hx := at_decl hlt
   have hno : l[k].name.length ≤ 1000000000 := by have := (name_decl (List.getElem_mem hlt)).1; omega
   have g1 := foldS_at (f := (declF seen (a.own ++ b.own ++ c.own))) hlt ha.1
   have g2 := foldS_next (f := (declF seen (a.own ++ b.own ++ c.own))) hlt ha.1
   obtain ⟨ha1, ha2⟩ := ha
   generalize (foldS (declF seen (a.own ++ b.own ++ c.own)) d (l.take k)).1 = st at *
   generalize l[k] = x at *
   have hk := hset ha2
   have hown := ha2.own
   have hz : ((declF seen (a.own ++ b.own ++ c.own)) st x).2 = if (seenGet seen 0 x.name).isSome = true ∨ x.name ∈ (a.own ++ b.own ++ c.own) ++ st.own then 7 else 0 := rfl
   have hz1 : ((declF seen (a.own ++ b.own ++ c.own)) st x).1 = st.addOwn x.name := rfl
   have hok := ha2.addOwn hno
   generalize (declF seen (a.own ++ b.own ++ c.own)) st x = fx at *
   unfold declC at hx
   repeat' (first | refine wkt ?_ | refine wka ?_ | refine wkD ?_ | refine wk ?_ | exact wkc | intro hc | refine wk2 ?_ ?_ | (apply TO.setGet; exact rfl; exact rfl; exact rfl; exact rfl; assumption; assumption) | (apply TO.nilGet; exact rfl; exact rfl; exact rfl; assumption) | (apply TO.setPut; exact rfl; exact rfl; exact rfl; exact rfl; assumption; assumption; exact rfl) | refine wms ?_ | (apply TO.sees hk; exact rfl; exact rfl; (first | exact rfl | exact Ch.tk _ _ _ _ _); assumption) | (apply TO.defined hk; exact rfl; exact rfl; (first | exact rfl | exact Ch.tk _ _ _ _ _); assumption) | (apply TO.seenLook; exact rfl; exact rfl; exact rfl; exact rfl; assumption; decide; assumption) | fail)
   all_goals simp only [Ch.vis, Ch.vis0, Ch.top] at *
   all_goals first
    | ((repeat' (first | refine LoopK.panic ?_ | refine wk ?_ | fail)); apply retS; (first | assumption | decide); (clear hx; first | grind | grind [orE]); (first | exact Nat.le_of_ble_eq_true rfl | exact Nat.le_refl _ | (simp [Ch.len]; done) | (simp [Ch.len]; omega)))
    | (refine LoopK.nextN hlt ⟨by rw [g2]; clear hx; grind, by rw [g2, hz1]; exact hok⟩ ?_ (by rw [g2, hz1]; rfl)
       repeat' (first | exact trivial | refine And.intro rfl ?_ | fail))
  ·obtain ⟨ha1, ha2⟩ := ha
   rw [List.take_length] at *
   repeat' (first | refine wkt ?_ | refine wk ?_ | exact wkc | intro hc | refine wk2 ?_ ?_ | fail)
   exact retSN ha1 rfl rfl rfl rfl
end Go.Proofs.YtonjiabmcbdhdaaGreat
