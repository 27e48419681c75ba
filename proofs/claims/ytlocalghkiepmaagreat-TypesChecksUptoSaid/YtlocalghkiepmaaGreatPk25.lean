import Derived.Lib.SliceRun
import Derived.Test.YtlocalghkiepmaaGreatPk9
import Derived.Test.YtlocalghkiepmaaGreatPk15
import Derived.Test.YtlocalghkiepmaaGreatPk24
set_option linter.unusedSimpArgs false
set_option linter.unusedVariables false
namespace Go.Proofs.YtlocalghkiepmaaGreat
open Go Go.TL
attribute [local irreducible] TR TO Then InBlock RetK Sound LoopK Kf GG ThenL
theorem close_some (n q c : Int) (a b d : SV) (Hr : Heap) (hb : blksUnder (Hr.length + 2) Hr = true) :
  DSound Tryz.prog 110 [.ref 0 0, .ref 1 0] (.cells [a, b] :: .cells [d] :: Hr) (some (failV n q c)) (fun H3 => H3 = .cells [.i n, .i q] :: .cells [.i c] :: Hr) := by
 refine DSound.of (tab := tab) Tryz.func110 (by kernel_rfl) rfl rfl rfl rfl ?_
 repeat' (first | refine wkt ?_ | refine wk ?_ | exact wkc | intro hc | refine wk2 ?_ ?_ | (apply TO.assert_ok tabOk; (iterate 4 exact rfl)) | fail)
 refine Then.normal ?_
 repeat' (first | refine wkt ?_ | fail)
 refine TR.regionM (envF := ?envF) (HF := .cells [.i n, .i q] :: .cells [.i c] :: Hr) [(.cp [T.i n, T.i q, T.i c] 0, false), (.t (.ag [T.i n, T.i q]), false), (.cp [T.i n, T.i q, T.i c] 2, false), (.i c, false), (.any, true), (.any, true)] [.cells [a, b] :: .cells [d] :: Hr, .cells [.i n, .i q] :: .cells [d] :: Hr, .cells [.i n, .i q] :: .cells [.i c] :: Hr] hmix ?hB ?h0 ?hp ?hF ?hE ?hK
 case hB => (dsimp only [List.map]; decide +kernel)
 case h0 => exact rfl
 case hF => exact rfl
 case hE => exact rfl
 case hp => repeat' (first | refine wkt ?_ | refine wk ?_ | exact trivial | exact And.intro rfl rfl | refine And.intro (fun H env => ?_) ?_ | refine And.intro (fun env => ?_) ?_ | fail)
 repeat' (first | refine wkt ?_ | refine wk ?_ | exact wkc | intro hc | refine wk2 ?_ ?_ | fail)
 have ht : (Blk.cells [.i n, .i q] :: Blk.cells [.i c] :: Hr).take (Blk.cells [a, b] :: Blk.cells [d] :: Hr).length = Blk.cells [.i n, .i q] :: Blk.cells [.i c] :: Hr := by simp
 refine ⟨Nat.le_refl _, ?_, ht⟩
 show blksUnder _ (List.take _ (Blk.cells [.i n, .i q] :: Blk.cells [.i c] :: Hr)) = true
 rw [ht]
 exact hb
theorem close_none (H : Heap) (hb : blksUnder H.length H = true) :
  DSound Tryz.prog 110 [.ref 0 0, .ref 1 0] H none (fun H3 => H3 = H) := by
 refine DSound.of (tab := tab) Tryz.func110 (by kernel_rfl) rfl rfl rfl rfl ?_
 repeat' (first | refine wkt ?_ | refine wk ?_ | exact wkc | intro hc | refine wk2 ?_ ?_ | (apply TO.assert_nil tabOk; (iterate 4 exact rfl)) | fail)
 refine Then.normal ?_
 repeat' (first | refine wkt ?_ | refine wk ?_ | exact wkc | intro hc | refine wk2 ?_ ?_ | fail)
 exact ⟨Nat.le_refl _, by rw [List.take_of_length_le (Nat.le_refl _)]; exact hb, List.take_of_length_le (Nat.le_refl _)⟩
theorem we3 {G Q1 Q2 : Prop} {f : FuncId} {cargs : List SV} {v pv : SV} {c : Int} {Hc H1 : Heap} (hs : Sound Tryz.prog f cargs Hc (Err c v pv H1)) (k1 : Q1) (k2 : Q2) (h : Sound Tryz.prog f cargs Hc (Err c v pv H1) → Hold Q1 → Hold Q2 → G := by
  intro hs k1 k2
  (apply Go.TL.TO.callE [2] hs; (iterate 3 exact rfl); (repeat' (first | exact trivial | exact Go.TL.Le.refl _ | refine And.intro ?_ ?_ | exact Go.TL.Le.any _ | exact Go.TL.Le.nil _ | exact Go.TL.Le.own _ _ _ | refine Go.TL.Le.tree rfl ?_ | exact Go.TL.TLe.refl _ | exact Go.TL.TLe.nil _ | refine Go.TL.TLe.ags ?_ | fail)); exact rfl; exact Hands.one rfl rfl; (iterate 4 exact rfl); exact k1.p; exact k2.p)) : G := h hs ⟨k1⟩ ⟨k2⟩
theorem shapeX_sound (p : Prog) (hw : (T.ag (progC p)).w ≤ 1000000000) : Pure Tryz.prog 66 [.t (.ag (progC p))] (.tup [.t (.ag [T.i (shapeX p).1.1, T.i (shapeX p).1.2]), .i (shapeX p).2]) := by
 have l1 : (T.sl 2 (p.enums.map enT)).w + (nodesT p.nodes).w ≤ (T.ag (progC p)).w := by rw [w_ag]; simp only [progC, List.map_cons, List.map_nil, List.sum_cons, List.sum_nil]; omega
 refine Sound.ofDefer tabOk Tryz.func66 (by kernel_rfl) rfl rfl (gf := 110) (cv := [.ref 0 0, .ref 1 0]) ?_
 unfold progC
 refine TD.seq ?_
 repeat' (first | refine wkt ?_ | refine wk ?_ | fail)
 show TD _ _ (.seq _ _) _ _ _ _ _ _
 refine TD.defer (tz := 0) rfl rfl ?_
 have m1 : (p.enums.map enT).length = p.enums.length := List.length_map _
 have m2 : (p.nodes.map nodT).length = p.nodes.length := List.length_map _
 have b1 := w_lenM enT 2 p.enums
 have b2 := w_lenM nodT 8 p.nodes
 have hen : ∀ (n q : Int) u, u ∈ p.enums → LS 112 [.t (.ag [.s u.name, .sl 1 (u.tags.map T.s)])] p.enums n q (enumE u) := fun n q u hu => enumM_sound p.enums n q u (by
  have := w_inM (f := enT) (sz := 2) hu
  rw [enT, w_ag] at this; simp only [List.map_cons, List.map_nil, List.sum_cons, List.sum_nil] at this
  have := w_lenM T.s 1 u.tags
  omega)
 have hno : ∀ (a b i : Int) u, u ∈ p.nodes → Sound Tryz.prog 113 [.ref 0 0, .i i, .t (.ag (nodC u))] [lookB p.enums a b] (Err (nodeX p.enums u).2 (.tup []) (failV i (nodeX p.enums u).1 (nodeX p.enums u).2) [lookB p.enums i (-1)]) := fun a b i u hu => nodeM_sound p.enums a b i u (by
  have := w_inM (f := nodT) (sz := 8) hu
  have : (nodesT p.nodes).w = (T.sl 8 (p.nodes.map nodT)).w := rfl
  omega)
 have hz : shapeX p = shapeX p := rfl
 conv at hz => rhs; unfold shapeX limE
 generalize shapeX p = z at hz ⊢
 refine wk ?_
 repeat' (first | refine wkt ?_ | refine wka ?_ | refine wk ?_ | exact wkc | intro hc | refine wk2 ?_ ?_ | (apply TO.call1 [2] (must_ok p.enums (-1) (-1) 3); (iterate 3 exact rfl); exact ⟨Le.refl _, Le.refl _, Le.refl _, trivial⟩; exact rfl; exact Hands.one rfl rfl; exact rfl; exact rfl) | refine we3 (must_no p.enums (-1) (-1) 3 (by decide)) ?_ ?_ | fail)
 all_goals first
  | (have hzz : z = ((-1, -1), 3) := by rw [hz]; clear hen hno; grind
     subst hzz
     exact ⟨_, close_some _ _ _ _ _ _ _ rfl, fun H3 h => by subst h; exact wkr⟩)
  | skip
 rw [if_neg (by clear hen hno hz; simp; omega)] at hz
 refine TR.loopN p.enums.length (fun k => firstE enumE (p.enums.take k) = 0) (fun k => [(1, .cp [.sl 2 (p.enums.map enT), nodesT p.nodes] 0), (2, .ref 0 0), (3, .ref 1 0), (4, .ref 2 0), (28, .t (.sl 2 (p.enums.map enT))), (29, .i (p.enums.map enT).length), (30, .i k)])
  (fun k => [.cells [.i 0, .i 0], .cells [.i 0], lookB p.enums (-1) (-1)]) rfl (fun k hlt ha => ?_) (fun ha => ?_)
 ·have hx : (p.enums.map enT)[k]? = some (.ag [.s p.enums[k].name, .sl 1 (p.enums[k].tags.map T.s)]) := at_map enT hlt
  have g1 := firstE_at (f := enumE) hlt ha
  have g2 := firstE_next (f := enumE) hlt ha
  have hs := hen (-1) (-1) _ (List.getElem_mem hlt)
  generalize p.enums[k] = u at *
  clear hen hno
  repeat' (first | refine wkt ?_ | refine wka ?_ | refine wk ?_ | exact wkc | intro hc | refine wk2 ?_ ?_ | refine we3 hs ?_ ?_ | fail)
  ·exact LoopK.nextN hlt (g2 hc)
  ·rw [if_pos (by rw [g1 hc]; exact hc), g1 hc] at hz
   subst hz
   refine LoopK.panic ?_
   refine wk ?_
   exact ⟨_, close_some _ _ _ _ _ _ _ rfl, fun H3 h => by subst h; exact wkr⟩
 have e1 := firstE_all ha
 rw [if_neg (by simp [e1])] at hz
 clear hen
 refine wk ?_
 repeat' (first | refine wkt ?_ | refine wk ?_ | exact wkc | intro hc | refine wk2 ?_ ?_ | fail)
 refine TR.loopN p.nodes.length (fun k => firstE (fun n => (nodeX p.enums n).2) (p.nodes.take k) = 0) (fun k => [(2, .ref 0 0), (3, .ref 1 0), (4, .ref 2 0), (39, .t (nodesT p.nodes)), (40, .i (p.nodes.map nodT).length), (41, .i k)])
  (fun k => [.cells [.i 0, .i 0], .cells [.i 0], lookB p.enums ((k : Int) - 1) (-1)]) rfl (fun k hlt ha => ?_) (fun ha => ?_)
 ·have hx := at_nod hlt
  have g1 := firstE_at (f := fun n => (nodeX p.enums n).2) hlt ha
  have g2 := firstE_next (f := fun n => (nodeX p.enums n).2) hlt ha
  have g3 := firstI_at (f := fun n => (nodeX p.enums n).2) hlt ha
  have hs := hno ((k : Int) - 1) (-1) k _ (List.getElem_mem hlt)
  have hat : p.nodes[k]? = some p.nodes[k] := List.getElem?_eq_getElem hlt
  generalize p.nodes[k] = u at *
  clear hno
  unfold nodC at hx hs
  repeat' (first | refine wkt ?_ | refine wka ?_ | refine wk ?_ | exact wkc | intro hc | refine wk2 ?_ ?_ | refine we3 hs ?_ ?_ | fail)
  ·refine LoopK.nextN hlt (g2 hc) ?_ (by rw [show ((k + 1 : Nat) : Int) - 1 = k from by omega]; rfl)
   repeat' (first | exact trivial | refine And.intro rfl ?_ | fail)
  ·rw [if_neg (by rw [g1 hc]; exact hc), g3 hc, g1 hc] at hz
   simp only [Int.toNat_natCast, hat, Option.map_some, Option.getD_some] at hz
   subst hz
   refine LoopK.panic ?_
   refine wk ?_
   exact ⟨_, close_some _ _ _ _ _ _ _ rfl, fun H3 h => by subst h; exact wkr⟩
 have e2 := firstE_all ha
 rw [if_pos e2] at hz
 subst hz
 refine wk ?_
 repeat' (first | refine wkt ?_ | refine wk ?_ | exact wkc | intro hc | refine wk2 ?_ ?_ | fail)
 exact ⟨_, close_none _ rfl, fun H3 h => by subst h; exact wkr⟩
end Go.Proofs.YtlocalghkiepmaaGreat
namespace Go.TL
open Go
theorem fix_ok {m : M} (hm : HRel m) {R : Nat} {e : TypeId} {ts : List T} {p : Place} (hp : m.β[R]? = some p) (hH : m.H[R]? = some (.row e ts)) :
  Step m ⟨m.A, m.β ++ [p], m.H.set R .dead ++ [.cells (ts.map .t)], m.w⟩ ∧ HRel ⟨m.A, m.β ++ [p], m.H.set R .dead ++ [.cells (ts.map .t)], m.w⟩ := by
 have hR := (List.getElem?_eq_some_iff.1 hH).1
 have hlen := hm.len
 have pick : ∀ (i : Nat) q c, (m.β ++ [p])[i]? = some q → (m.H.set R .dead ++ [Blk.cells (ts.map .t)])[i]? = some c → c.live = true → (i = m.H.length ∧ q = p ∧ c = .cells (ts.map .t)) ∨ (i ≠ R ∧ i < m.H.length ∧ m.β[i]? = some q ∧ m.H[i]? = some c) := by
  intro i q c h1 h2 hl
  by_cases hi : i < m.H.length
  ·rw [List.getElem?_append_left (by rw [hlen]; exact hi)] at h1
   rw [List.getElem?_append_left (by simpa using hi)] at h2
   by_cases hir : i = R
   ·subst hir
    rw [List.getElem?_set_self hR] at h2
    cases h2; cases hl
   ·rw [List.getElem?_set_ne (by omega)] at h2
    exact .inr ⟨hir, hi, h1, h2⟩
  ·rw [List.getElem?_append_right (by rw [hlen]; omega)] at h1
   rw [List.getElem?_append_right (by simp; omega)] at h2
   have : i = m.H.length := by
    have := (List.getElem?_eq_some_iff.1 h2).1
    simp at this; omega
   subst this
   simp [hlen] at h1 h2
   exact .inl ⟨rfl, h1.symm, h2.symm⟩
 have own : ∀ b o, Own ⟨m.A, m.β ++ [p], m.H.set R .dead ++ [.cells (ts.map .t)], m.w⟩ b o → Own m b o := by
  rintro b o ⟨i, q, c, h1, h2, h3, h4⟩
  rcases pick i q c h1 h2 h3 with ⟨rfl, rfl, rfl⟩ | ⟨_, _, g1, g2⟩
  ·exact ⟨R, q, _, hp, hH, rfl, h4⟩
  ·exact ⟨i, q, c, g1, g2, h3, h4⟩
 have s : Step m ⟨m.A, m.β ++ [p], m.H.set R .dead ++ [.cells (ts.map .t)], m.w⟩ := by
  refine ⟨rfl, rfl, rfl, Nat.le_refl _, fun _ _ h => h, fun _ _ h => .inl h, fun b o h => .inl (own b o h), fun _ _ _ _ => rfl, fun _ _ _ _ _ => rfl, fun _ _ _ => rfl, fun _ _ h => h, fun _ L h => ⟨L, h⟩, fun _ _ _ h => h, fun i q hq => ⟨q, ?_, ?_⟩⟩
  ·show (m.β ++ [p])[i]? = some q
   rw [List.getElem?_append_left (List.getElem?_eq_some_iff.1 hq).1]; exact hq
  ·have hi : i < m.H.length := by rw [← hlen]; exact (List.getElem?_eq_some_iff.1 hq).1
   show IdStep m.H[i]? (m.H.set R .dead ++ [Blk.cells (ts.map .t)])[i]? q q
   rw [List.getElem?_append_left (by simpa using hi)]
   by_cases hir : i = R
   ·subst hir
    rw [List.getElem?_set_self hR, hH]
    intro n' h
    cases h
   ·rw [List.getElem?_set_ne (by omega)]
    exact IdStep.refl _ _
 obtain ⟨⟨r1, r2, r3⟩, r4, r5⟩ := hm.blk R p _ hp hH
 refine ⟨s, by simp [hlen], fun i q c h1 h2 => ?_, fun i j q q' c c' hij h1 h2 h3 h4 hc hc' => ?_, fun b o h hn => hm.still b o h (own b o hn), hm.inA, fun i q c h1 h2 hc hq => ?_⟩
 ·cases hlv : c.live with
  | false => cases c <;> simp [Blk.live] at hlv; trivial
  | true =>
    rcases pick i q c h1 h2 hlv with ⟨rfl, rfl, rfl⟩ | ⟨_, _, g1, g2⟩
    ·refine ⟨by simp [r1]; exact r2, r4, fun j c hc => ?_⟩
     rw [List.getElem?_map] at hc
     cases ht : ts[j]? with
     | none => rw [ht] at hc; cases hc
     | some t =>
       rw [ht] at hc; cases hc
       obtain ⟨y, y1, y2, y3⟩ := r5 j t ht
       exact ⟨y, y1, y2, .t _ _ y3⟩
    ·exact (hm.blk i q c g1 g2).step hm s (fun o _ _ => ⟨rfl, fun _ => rfl⟩) (fun _ => rfl)
 ·rcases pick i q c h1 h2 hc with ⟨rfl, rfl, rfl⟩ | ⟨a0, a1, a2, a3⟩
  ·rcases pick j q' c' h3 h4 hc' with ⟨rfl, rfl, rfl⟩ | ⟨b0, b1, b2, b3⟩
   ·exact absurd rfl hij
   ·exact hm.apart R j _ _ _ _ (fun e => b0 e.symm) hp hH b2 b3 rfl hc'
  ·rcases pick j q' c' h3 h4 hc' with ⟨rfl, rfl, rfl⟩ | ⟨b0, b1, b2, b3⟩
   ·exact hm.apart i R _ _ _ _ a0 a2 a3 hp hH hc rfl
   ·exact hm.apart i j _ _ _ _ hij a2 a3 b2 b3 hc hc'
 ·rcases pick i q c h1 h2 hc with ⟨rfl, rfl, rfl⟩ | ⟨a0, a1, a2, a3⟩
  ·exact hm.inO R _ _ hp hH rfl hq
  ·exact hm.inO i q c a2 a3 hc hq
section rules
variable {P : Program} {n : Nat} {env : Env} {H : Heap} {K : TK} {all : Array Oper} {rest : List Oper} {tab : Tab}
variable {d : Nat} {ty : TypeId} {pos : String} {aft : Array Edge} {q : Bool}
theorem TO.fix (x : Nat) {R len : Nat} {e : TypeId} {ts : List T} {H' : Heap} {ops : List Oper} (hx : env.look x = some (.rw R len)) (hH : H[R]? = some (.row e ts)) (hl : len = ts.length) (hpos : 0 < ts.length) (hH' : H.set R .dead ++ [.cells (ts.map .t)] = H')
  (k : TO false P n all ops ((x, .ms 1 H.length 0 len) :: env) H' K) : TO false P n all ops env H K := by
 intro φ m a h1 h2 h3 h4
 obtain ⟨y, y1, y2⟩ := h3.2 x _ hx
 cases y2 with
 | rw _ _ _ p hp hxs ho =>
   have hH1 : m.H[R]? = some (.row e ts) := by rw [h1]; exact hH
   obtain ⟨s, hm'⟩ := fix_ok h2 hp hH1
   have hho := (ho ts.length (by rw [hH1]; rfl)).2 (by rw [hl])
   obtain ⟨ad, cap, hyq, hc1, hc2, hc3, hc4⟩ := hho
   have hE : ERel ⟨m.A, m.β ++ [p], m.H.set R .dead ++ [.cells (ts.map .t)], m.w⟩ n ((x, .ms 1 H.length 0 len) :: env) a.tmps := by
    refine ⟨h3.1, fun i v hv => ?_⟩
    by_cases hi : x = i
    ·subst hi
     rw [Env.look_cons_same] at hv
     cases hv
     refine ⟨y, y1, ?_⟩
     cases ad with
     | none => simp only at hc4; omega
     | some a0 =>
       obtain ⟨hc4, hc5⟩ := hc4
       subst hyq hc4
       have hz : (⟨p.b, 0, none⟩ : Addr) = ⟨p.b, p.lo + 0, none⟩ := by rw [hc2]
       rw [hz]
       refine .ms 1 H.length 0 len cap p ?_ ?_ hc1 (by omega)
       ·show (m.β ++ [p])[H.length]? = some p
        rw [← h1, ← h2.len, List.getElem?_append_right (Nat.le_refl _)]; simp
       ·intro n' hn
        have : (m.H.set R .dead ++ [Blk.cells (ts.map .t)])[H.length]? = some (.cells (ts.map .t)) := by
         rw [← h1, List.getElem?_append_right (by simp)]; simp
        rw [show (M.H ⟨m.A, m.β ++ [p], m.H.set R .dead ++ [.cells (ts.map .t)], m.w⟩)[H.length]? = _ from this] at hn
        cases hn
    ·rw [Env.look_cons_other _ _ hi] at hv
     exact (h3.step h2 s).2 i v hv
   exact TO.step' (m' := ⟨m.A, m.β ++ [p], m.H.set R .dead ++ [.cells (ts.map .t)], m.w⟩) s (k φ ⟨m.A, m.β ++ [p], m.H.set R .dead ++ [.cells (ts.map .t)], m.w⟩ a (by show m.H.set R .dead ++ _ = H'; rw [h1]; exact hH') hm' hE (h4.step h2 s))
theorem TO.effV {op : Op} {H' : Heap}
  (h : ∀ (m : M) (a : Act), m.H = H → HRel m → ERel m n env a.tmps → ∃ x m', (execOp a.eval ⟨none, op, ty, pos, aft, none⟩).run P m.w = .ok (.value x) m'.w ∧ Step m m' ∧ HRel m' ∧ m'.H = H')
  (k : TO false P n all rest env H' K) : TO false P n all (⟨none, op, ty, pos, aft, none⟩ :: rest) env H K := by
 intro φ m a h1 h2 h3 h4
 obtain ⟨x, m', hx, s, hm', hH'⟩ := h m a h1 h2 h3
 refine wpListIn_plain rfl fun K' hK => ?_
 unfold Oper.wpIn
 refine ⟨fun _ _ => trivial, ?_⟩
 rw [semAt_val hx (by intro d e; cases e)]
 simp only [Oper.uponIn]
 exact hK _ _ (TO.step' s (k φ m' _ hH' hm' (by simpa [Act.put] using h3.step h2 s) (by simpa [Act.put] using h4.step h2 s)))
theorem TO.clear1 (hT : TabOk P tab) {t e : TypeId} {i ie : TyI} {z : T} {x : Operand} {id off len : Nat} {cs : List SV} {H' : Heap} (ht : tab.get t = some i) (hk : i.k = .slice e) (he : tab.get e = some ie) (hz : ie.zero = [z]) (hag : ie.k.agg = false)
  (hx : env.val x = some (.ms 1 id off len)) (hH : H[id]? = some (.cells cs)) (hpos : 0 < len) (hl : off + len ≤ cs.length) (hH' : H.set id (.cells (splice cs off (List.replicate len (.t z)))) = H')
  (k : TO false P n all rest env H' K) : TO false P n all (⟨none, .call { callee := .builtin .clear, args := #[x], argTypes := #[t] }, ty, pos, aft, none⟩ :: rest) env H K :=
 TO.effV (fun m ac h1 h2 h3 => by
  obtain ⟨zz, hz1, hz2, _, hz4⟩ := (hT e ie he).zero
  obtain ⟨g1, g0, g2⟩ := zero_rel (A := m.A) (w := m.w) _ _ hz2
  have hzz : zz.cells = #[zz] := by
   have := hz4 hag
   cases zz <;> simp [Value.oneCell'] at this <;> rfl
  have h := h3.val hx
  generalize hq : ac.eval x = u at h
  cases h with
  | ms _ _ _ _ cap p hp hn hc hh =>
    have hH1 : m.H[id]? = some (.cells cs) := by rw [h1]; exact hH
    obtain ⟨b1, b2, b3⟩ := h2.blk id p _ hp hH1
    have hzr : TRel m.A m.w z zz := g2 0 z zz (by rw [hz]; rfl) (by rw [hzz]; rfl)
    obtain ⟨s, hm'⟩ := upd_cells h2 (off := off) (vs := List.replicate len (.t z)) (ys := List.replicate len zz) hp hH1 (by simpa using hl) (by simpa using hpos) (by simp) (fun u hu => by rw [List.eq_of_mem_replicate hu]; exact hz4 hag)
     (fun j c y hc hy => by
       rw [List.getElem?_replicate] at hc hy
       split at hc
       ·rename_i hj
        rw [if_pos hj] at hy
        cases hc; cases hy
        exact .t _ _ hzr
       ·cases hc)
    refine ⟨.tuple #[], _, ?_, s, hm', by rw [h1]; exact hH'⟩
    have hun := (hT t i ht).slice hk
    have hrun := Go.Lib.run_clear_slice (P := P) m.w t e ty zz hun (fun w => hz1 w) hzz (hz4 hag) p.b (p.lo + off) len cap hpos (fun j hj => (b2 _ (by omega) (by omega)).1) (fun j hj => (b2 _ (by omega) (by omega)).2)
    simp [execOp, resolve, invoke, hq, builtin, hrun]) k
theorem TO.slice_mslo (hT : TabOk P tab) {t e : TypeId} {i ie : TyI} {x z : Operand} {sz id off len b : Nat} {ik : IntKind} (hd : Nat.ble (d + 1) n = true) (ht : tab.get t = some i) (hk : i.k = .slice e) (he : tab.get e = some ie) (hsz : ie.size = sz)
  (hx : env.val x = some (.ms sz id off len)) (hz : env.val z = some (.t (.v (.int ik (b : Int))))) (h2 : b < len)
  (k : TO q P n all rest ((d, .ms sz id (off + b * sz) (len - b)) :: env) H K) : TO q P n all (⟨some d, .slice t x (some z) none none, ty, pos, aft, none⟩ :: rest) env H K :=
 TO.op hd (fun m ac g1 g2 g3 => by
  have h := g3.val hx
  generalize hq : ac.eval x = v at h
  cases h with
  | ms _ _ _ _ cap p hp hn hc hh =>
    refine ⟨.slice (some ⟨p.b, p.lo + (off + b * sz), none⟩) (len - b) (cap - b), fun w' hw' => ?_, .ms sz id (off + b * sz) (len - b) (cap - b) p hp hn (by omega) ?_⟩
    ·have := slice_sl_run (P := P) hT ht hk he (some ⟨p.b, p.lo + off, none⟩) len cap (some (ac.eval z)) none b len w' (.inr ⟨ik, by rw [(g3.val hz).v_eq]⟩) (.inl ⟨rfl, rfl⟩) (by omega) (by omega)
     rw [if_neg (by omega), hsz] at this
     simp only [Option.map_some, addr_add, Nat.add_assoc] at this
     simp [execOp, hq, this]
    ·have : b * sz + (cap - b) * sz = cap * sz := by rw [← Nat.add_mul]; congr 1; omega
     omega) k
theorem TO.freezeP {ops : List Oper} (i sz id len : Nat) {cs : List SV} {es : List T} {H' : Heap} (hi : env.look i = some (.ms sz id 0 len)) (hH : H[id]? = some (.cells cs)) (hcl : es.length * sz ≤ cs.length) (hcs : ∀ (j : Nat) c, ((es.map T.cells).flatten.map SV.t)[j]? = some c → cs[j]? = some c) (hlen : len = es.length) (hsz : ∀ e ∈ es, e.cells.length = sz)
  (hpos : Nat.ble 1 sz = true) (hH' : H.set id .dead = H') (k : TO false P n all ops ((i, .t (.sl sz es)) :: env) H' K) : TO false P n all ops env H K := by
 intro φ m a h1 h2 h3 h4
 have hp' := Nat.le_of_ble_eq_true hpos
 obtain ⟨x, hx1, hx2⟩ := h3.2 i _ hi
 subst hlen
 obtain ⟨l1, l2⟩ := flat_cells es hsz
 cases hx2 with
 | ms _ _ _ _ cap p hp hn hc hh =>
   have hH1 : m.H[id]? = some (.cells cs) := by rw [h1]; exact hH
   obtain ⟨b1, b2, b3⟩ := h2.blk id p _ hp hH1
   have hex : ∀ j, ∃ y, j < cs.length → m.w.cell? ⟨p.b, p.lo + j, none⟩ = some y ∧ y.oneCell' = true ∧ ∀ c, cs[j]? = some c → SRel m c y := by
    intro j
    by_cases hj : j < cs.length
    ·obtain ⟨y, hy1, hy0, hy2⟩ := b3 j cs[j] (List.getElem?_eq_getElem hj)
     exact ⟨y, fun _ => ⟨hy1, hy0, fun c hc => by rw [List.getElem?_eq_getElem hj] at hc; cases hc; exact hy2⟩⟩
    ·exact ⟨undef, fun h => absurd h hj⟩
   let f : Nat → Value := fun j => Classical.choose (hex j)
   have hf := fun j => Classical.choose_spec (hex j)
   obtain ⟨s, hm'⟩ := mv_step h2 (k1 := .dead) (p' := p) (A' := fun b o => m.A b o ∨ (b = p.b ∧ p.lo ≤ o ∧ o < p.lo + cs.length)) (w' := m.w) hp hH1 rfl rfl rfl rfl (Nat.le_refl _) (fun _ _ _ _ => rfl) (fun _ _ _ _ _ => rfl) (fun _ _ _ => rfl) (fun _ _ _ h => h) (fun _ _ h => h)
    (fun _ _ h => .inl h) (fun b o h => by
      rcases h with h | h
      ·exact .inl h
      ·exact .inr (.inl (by omega))) (fun h => by cases h) (fun h => by cases h) (fun o q1 q2 => (b2 o q1 q2).1) ⟨rfl, fun n' => by simp [tlOf]⟩ (fun _ => trivial)
   have hlt : ∀ q j, q < es.length → j < sz → q * sz + j < cs.length := fun q j hq hj => by
    have := Nat.mul_le_mul_right sz (show q + 1 ≤ es.length from hq)
    rw [Nat.succ_mul] at this
    omega
   have hr : SRel ⟨fun b o => m.A b o ∨ (b = p.b ∧ p.lo ≤ o ∧ o < p.lo + cs.length), m.β.set id p, m.H.set id .dead, m.w⟩ (.t (.sl sz es)) (.slice (some ⟨p.b, p.lo + 0, none⟩) es.length cap) := by
    refine .t _ _ (.sl sz es p.b (p.lo + 0) cap f hc (fun j e he => hsz e (List.mem_of_getElem? he)) (fun q j hq hj => .inr ⟨rfl, by omega, by have := hlt q j hq hj; omega⟩) (fun q j hq hj => (hf _ (hlt q j hq hj)).1) (fun q j hq hj => (hf _ (hlt q j hq hj)).2.1) (fun q e j c he hc' => ?_))
    have hq := (List.getElem?_eq_some_iff.1 he).1
    have hj := (List.getElem?_eq_some_iff.1 hc').1
    rw [hsz e (List.mem_of_getElem? he)] at hj
    have hcc : cs[q * sz + j]? = some (.t c) := hcs _ _ (by rw [List.getElem?_map, l2 q j e c he hc']; rfl)
    have := (hf _ (hlt q j hq hj)).2.2 _ hcc
    cases this with
    | t _ _ h => exact s.trel h2 h
   refine TO.step' (m' := ⟨fun b o => m.A b o ∨ (b = p.b ∧ p.lo ≤ o ∧ o < p.lo + cs.length), m.β.set id p, m.H.set id .dead, m.w⟩) s (k φ ⟨fun b o => m.A b o ∨ (b = p.b ∧ p.lo ≤ o ∧ o < p.lo + cs.length), m.β.set id p, m.H.set id .dead, m.w⟩ a (by rw [h1]; exact hH') hm' ⟨h3.1, fun j v hv => ?_⟩ (h4.step h2 s))
   by_cases hj : i = j
   ·subst hj
    rw [Env.look_cons_same] at hv
    cases hv
    exact ⟨_, hx1, hr⟩
   ·rw [Env.look_cons_other _ _ hj] at hv
    exact (h3.step h2 s).2 j v hv
end rules
section rules
variable {P : Program} {n : Nat} {env : Env} {H : Heap} {K : TK} {all : Array Oper} {rest : List Oper} {tab : Tab}
variable {d : Nat} {ty : TypeId} {pos : String} {aft : Array Edge} {q : Bool}
theorem TR.less {c : Code} (i : Nat) {v v' : SV} (hi : env.look i = some v) (hl : Le v v') (k : TR P n c ((i, v') :: env) H K) : TR P n c env H K := by
 intro φ m a h1 h2 h3 h4
 refine k φ m a h1 h2 ⟨h3.1, fun j w hw => ?_⟩ h4
 by_cases hj : i = j
 ·subst hj
  rw [Env.look_cons_same] at hw
  cases hw
  obtain ⟨x, x1, x2⟩ := h3.2 i _ hi
  exact ⟨x, x1, hl m x x2⟩
 ·rw [Env.look_cons_other _ _ hj] at hw
  exact h3.2 j w hw
theorem TO.rw_nil (x sz : Nat) {R : Nat} {e : TypeId} {ops : List Oper} (hx : env.look x = some (.rw R 0)) (hH : H[R]? = some (.row e []))
  (k : TO q P n all ops ((x, .t (.sl sz [])) :: env) H K) : TO q P n all ops env H K := by
 intro φ m a h1 h2 h3 h4
 refine k φ m a h1 h2 ⟨h3.1, fun i v hv => ?_⟩ h4
 by_cases hi : x = i
 ·subst hi
  rw [Env.look_cons_same] at hv
  cases hv
  obtain ⟨y, y1, y2⟩ := h3.2 x _ hx
  refine ⟨y, y1, ?_⟩
  cases y2 with
  | rw _ _ _ p hp hxs ho =>
    have hH1 : m.H[R]? = some (.row e []) := by rw [h1]; exact hH
    obtain ⟨ad, cap, rfl, hc1, hc2, hc3, hc4⟩ := (ho 0 (by rw [hH1]; rfl)).2 rfl
    cases ad with
    | none =>
      simp only at hc4
      subst hc4
      exact .t _ _ (.nil sz)
    | some a0 =>
      obtain ⟨rfl, _⟩ := hc4
      exact .t _ _ (.sl sz [] p.b 0 cap (fun _ => undef) (Nat.zero_le _) (fun i e h => by simp at h) (fun i j h => by simp at h) (fun i j h => by simp at h) (fun i j h => by simp at h) (fun i e j c h => by simp at h))
 ·rw [Env.look_cons_other _ _ hi] at hv
  exact h3.2 i v hv
theorem TO.less (i : Nat) {ops : List Oper} {v v' : SV} (hi : env.look i = some v) (hl : Le v v') (k : TO q P n all ops ((i, v') :: env) H K) : TO q P n all ops env H K := by
 intro φ m a h1 h2 h3 h4
 refine k φ m a h1 h2 ⟨h3.1, fun j w hw => ?_⟩ h4
 by_cases hj : i = j
 ·subst hj
  rw [Env.look_cons_same] at hw
  cases hw
  obtain ⟨x, x1, x2⟩ := h3.2 i _ hi
  exact ⟨x, x1, hl m x x2⟩
 ·rw [Env.look_cons_other _ _ hj] at hw
  exact h3.2 j w hw
theorem TO.shadow {ops : List Oper} {v x : SV} (k : TO q P n all ops ((d, v) :: env) H K) : TO q P n all ops ((d, v) :: (d, x) :: env) H K := by
 intro φ m a h1 h2 h3 h4
 refine k φ m a h1 h2 ⟨h3.1, fun j w hw => h3.2 j w ?_⟩ h4
 by_cases hj : d = j
 ·subst hj
  rw [Env.look_cons_same] at hw ⊢; exact hw
 ·rw [Env.look_cons_other _ _ hj] at hw
  rw [Env.look_cons_other _ _ hj, Env.look_cons_other _ _ hj]; exact hw
theorem grow_dead {m : M} (hm : HRel m) : Step m ⟨m.A, m.β ++ [⟨0, 0, 0⟩], m.H ++ [.dead], m.w⟩ ∧ HRel ⟨m.A, m.β ++ [⟨0, 0, 0⟩], m.H ++ [.dead], m.w⟩ := by
 have hlen := hm.len
 have pick : ∀ (i : Nat) q c, (m.β ++ [(⟨0, 0, 0⟩ : Place)])[i]? = some q → (m.H ++ [Blk.dead])[i]? = some c → c.live = true → m.β[i]? = some q ∧ m.H[i]? = some c := by
  intro i q c h1 h2 hl
  by_cases hi : i < m.H.length
  ·rw [List.getElem?_append_left (by rw [hlen]; exact hi)] at h1
   rw [List.getElem?_append_left hi] at h2
   exact ⟨h1, h2⟩
  ·rw [List.getElem?_append_right (by omega)] at h2
   cases hj : i - m.H.length with
   | zero => rw [hj] at h2; cases h2; cases hl
   | succ j => rw [hj] at h2; cases h2
 have own : ∀ b o, Own ⟨m.A, m.β ++ [⟨0, 0, 0⟩], m.H ++ [.dead], m.w⟩ b o → Own m b o := by
  rintro b o ⟨i, q, c, h1, h2, h3, h4⟩
  exact ⟨i, q, c, (pick i q c h1 h2 h3).1, (pick i q c h1 h2 h3).2, h3, h4⟩
 have s : Step m ⟨m.A, m.β ++ [⟨0, 0, 0⟩], m.H ++ [.dead], m.w⟩ := by
  refine ⟨rfl, rfl, rfl, Nat.le_refl _, fun _ _ h => h, fun _ _ h => .inl h, fun b o h => .inl (own b o h), fun _ _ _ _ => rfl, fun _ _ _ _ _ => rfl, fun _ _ _ => rfl, fun _ _ h => h, fun _ L h => ⟨L, h⟩, fun _ _ _ h => h, fun i q hq => ⟨q, ?_, ?_⟩⟩
  ·show (m.β ++ [_])[i]? = some q
   rw [List.getElem?_append_left (List.getElem?_eq_some_iff.1 hq).1]; exact hq
  ·show IdStep m.H[i]? (m.H ++ [Blk.dead])[i]? q q
   rw [List.getElem?_append_left (by rw [← hlen]; exact (List.getElem?_eq_some_iff.1 hq).1)]
   exact IdStep.refl _ _
 refine ⟨s, by simp [hlen], fun i q c h1 h2 => ?_, fun i j q r c l hij h1 h2 h3 h4 hc hl => ?_, fun b o h hn => hm.still b o h (own b o hn), hm.inA, fun i q c h1 h2 hc hq => hm.inO i q c (pick i q c h1 h2 hc).1 (pick i q c h1 h2 hc).2 hc hq⟩
 ·cases hlv : c.live with
  | false => cases c <;> simp [Blk.live] at hlv; trivial
  | true => exact (hm.blk i q c (pick i q c h1 h2 hlv).1 (pick i q c h1 h2 hlv).2).step hm s (fun o _ _ => ⟨rfl, fun _ => rfl⟩) (fun _ => rfl)
 ·exact hm.apart i j q r c l hij (pick i q c h1 h2 hc).1 (pick i q c h1 h2 hc).2 (pick j r l h3 h4 hl).1 (pick j r l h3 h4 hl).2 hc hl
theorem TO.addDead {ops : List Oper} (k : TO false P n all ops env (H ++ [.dead]) K) : TO false P n all ops env H K := by
 intro φ m a h1 h2 h3 h4
 obtain ⟨s, hm'⟩ := grow_dead h2
 exact TO.step' (m' := ⟨m.A, m.β ++ [⟨0, 0, 0⟩], m.H ++ [.dead], m.w⟩) s (k φ ⟨m.A, m.β ++ [⟨0, 0, 0⟩], m.H ++ [.dead], m.w⟩ a (by rw [h1]) hm' (h3.step h2 s) (h4.step h2 s))
theorem TO.callW {H1 : Heap} {cargs : List SV} {v : SV} {f : Operand} {fid : FuncId} {caps : List SV} {args : Array Operand} {ts : Array TypeId} {vs : List SV} (hs : Sound P fid cargs H fun r H' => r = .ret v ∧ H' = H1) (hd : Nat.ble (d + 1) n = true)
  (hf : env.val f = some (.fn fid caps)) (ha : env.vals args.toList = some vs) (hl : Les (vs ++ caps) cargs) (k : TO false P n all rest ((d, v) :: env) H1 K) :
  TO false P n all (⟨some d, .call { callee := .value f, args := args, argTypes := ts }, ty, pos, aft, none⟩ :: rest) env H K :=
 TO.callA hs hd hf ha hl (fun u H' h => by obtain ⟨h, rfl⟩ := h; cases h; exact k) (fun u H' h => by cases h.1)
end rules
end Go.TL
