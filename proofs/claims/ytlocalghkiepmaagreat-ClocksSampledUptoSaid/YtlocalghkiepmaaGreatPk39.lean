import Derived.Test.YtlocalghkiepmaaGreatPk19
import Derived.Test.YtlocalghkiepmaaGreatPk32
import Derived.Test.YtlocalghkiepmaaGreatPk35
import Derived.Test.YtlocalghkiepmaaGreatPk36
import Derived.Test.YtlocalghkiepmaaGreatPk38
set_option linter.unusedSimpArgs false
set_option linter.unusedVariables false
namespace Go.TL
open Go
section rules
variable {P : Program} {n : Nat} {env : Env} {H : Heap} {K : TK} {tab : Tab}
theorem append_runM (hT : TabOk P tab) {m : M} (hm : HRel m) {t t' e : TypeId} {i i' ie : TyI} {sz id : Nat} {ys : List T} {x y : Value} {ty : TypeId} (ht : tab.get t = some i) (hk : i.k = .slice e) (ht' : tab.get t' = some i') (hk' : i'.k = .slice e) (he : tab.get e = some ie) (hs : ie.size = sz) (hpos : 0 < sz)
  (hx : SRel m (.sl sz [] id) x) (hH : m.H[id]? = some (.tail 0)) (hy : TRel m.A m.w (.sl sz ys) y) (h0 : 0 < ys.length) (hb : ys.length * ie.bytes ≤ 70368744177664) (hb1 : ys.length ≤ 70368744177664) (hby : ie.bytes ≤ 65536) :
  ∃ z m', (Builtin.append_ #[t, t'] ty #[x, y]).run P m.w = .ok z m'.w ∧ Step m m' ∧ HRel m' ∧ m'.H = m.H.set id (.cells ((ys.map T.cells).flatten.map .t)) ∧ SRel m' (.ms sz id 0 ys.length) z := by
 cases hx with
 | sl _ _ _ _ p hx hp ho =>
 obtain ⟨_, ho2⟩ := ho _ (by rw [hH]; rfl)
 obtain ⟨ad, len, cap, rfl, hlc, hown⟩ := ho2 rfl
 have hlen : len = 0 := by obtain ⟨ad', cap', e⟩ := hx.slice_inv; cases e; rfl
 subst hlen
 obtain ⟨ad2, cap2, rfl⟩ := hy.slice_inv
 obtain ⟨g, hg, g1, g2, g3⟩ := firstCells_run (P := P) hy hpos
 obtain ⟨f, hf, _, _, _⟩ := firstCells_run (P := P) hx hpos
 obtain ⟨ti, hti, hti1, hti2⟩ := (hT e ie he).info
 obtain ⟨z, hz1, hz2, _, _⟩ := (hT e ie he).zero
 have hzz := (zero_rel (A := m.A) (w := m.w) _ _ hz2)
 have hzl : z.cells.size = sz := by
  have := hzz.1
  have h2 := (hT e ie he).len
  simp at this; omega
 obtain ⟨l1, l2⟩ := flat_cells ys (fun e he => by obtain ⟨q, hq⟩ := List.getElem?_of_mem he; exact g2 q e hq)
 have hlc2 : ((ys.map T.cells).flatten.map SV.t).length = ys.length * sz := by rw [List.length_map, l1]
 have hval : ∀ q, q < ys.length * sz → ∀ c, ((ys.map T.cells).flatten.map SV.t)[q]? = some c → ∃ t, c = .t t ∧ TRel m.A m.w t (g q) := by
  intro q hq c hc
  have hj : q % sz < sz := Nat.mod_lt _ hpos
  have hqs : q = q / sz * sz + q % sz := by rw [Nat.mul_comm]; exact (Nat.div_add_mod q sz).symm
  have hi : q / sz < ys.length := Nat.div_lt_of_lt_mul (by rw [Nat.mul_comm]; exact hq)
  have hcl := g2 _ _ (List.getElem?_eq_getElem hi)
  have hcc : ys[q / sz].cells[q % sz]? = some (ys[q / sz].cells[q % sz]'(by omega)) := List.getElem?_eq_getElem _
  have h3 := l2 _ _ _ _ (List.getElem?_eq_getElem hi) hcc
  rw [← hqs] at h3
  rw [List.getElem?_map, h3] at hc
  cases hc
  refine ⟨_, rfl, ?_⟩
  have := g3 _ _ _ _ (List.getElem?_eq_getElem hi) hcc
  rw [← hqs] at this
  exact this
 by_cases hfit : ys.length ≤ cap
 ·have hrun : (Builtin.append_ #[t, t'] ty #[.slice ad 0 cap, .slice ad2 ys.length cap2]).run P m.w =
    (match ad with
      | none => .ok (.slice none ys.length cap) m.w
      | some a => ((storeCells (a.add (0 * sz)) ((List.range (ys.length * sz)).map g)).run P m.w).andThen fun _ w' => .ok (.slice (some a) ys.length cap) w') := by
   simp [Builtin.append_, underlying, (hT t i ht).slice hk, (hT t' i' ht').slice hk', (hT e ie he).sizeOf, hs, Builtin.lenOf, hfit, hg m.w rfl]
   cases ad <;> simp
  cases ad with
  | none =>
    obtain ⟨h1, h2, h3⟩ := hown
    omega
  | some a =>
    obtain ⟨h1, h2, h3, h4⟩ := hown
    obtain ⟨ab, ao, asp⟩ := a
    simp only [Nat.zero_mul, Nat.add_zero] at h1 h2 h3 h4
    subst h4; subst h1
    have hfree := hm.blk id p _ hp hH
    have hmul : ys.length * sz ≤ cap * sz := Nat.mul_le_mul_right _ hfit
    have hst := run_storeCells_cells (P := P) p.b ao ((List.range (ys.length * sz)).map g) 0 m.w (fun q hq => (hfree _ (by omega) (by simp at hq; omega)).1) (fun q hq => (hfree _ (by omega) (by simp at hq; omega)).2)
     (fun v hv => by simp at hv; obtain ⟨q, hq, rfl⟩ := hv; exact g1 q hq)
    obtain ⟨e1, e2, e3, e4, e5, e6⟩ := setCells_rest p.b ((List.range (ys.length * sz)).map g) ao m.w
    have hout : ∀ b o, ¬ (b = p.b ∧ ao ≤ o ∧ o < ao + ys.length * sz) → (m.w.setCells p.b ao ((List.range (ys.length * sz)).map g)).cell? ⟨b, o, none⟩ = m.w.cell? ⟨b, o, none⟩ := by
     intro b o hn
     exact World.cell?_setCells_out _ _ _ _ _ fun q1 _ => by simp only [List.length_map, List.length_range] at *; omega
    have hin : ∀ q, q < ys.length * sz → (m.w.setCells p.b ao ((List.range (ys.length * sz)).map g)).cell? ⟨p.b, ao + q, none⟩ = some (g q) := by
     intro q hq
     have := World.cell?_setCells_in p.b ((List.range (ys.length * sz)).map g) ao m.w (fun j hj => (hfree _ (by omega) (by simp at hj; omega)).1) q (by simpa using hq)
     simpa using this
    obtain ⟨s, hm'⟩ := mv_step hm (k1 := .cells ((ys.map T.cells).flatten.map .t)) (p' := p) (A' := m.A) (w' := m.w.setCells p.b ao ((List.range (ys.length * sz)).map g)) hp hH rfl e1 e2 e3 (by rw [e4]; exact Nat.le_refl _)
     (fun b o _ hn => hout b o (by omega)) (fun b o _ _ _ => World.frozen?_setCells _ _ _ _ _)
     (fun b _ hb => by
       rcases hb with hb | hb
       ·exact e5 b hb
       ·have : ys.length * sz = 0 := by omega
        rw [this]; rfl)
     (fun b o _ h => by
       by_cases hb : b = p.b
       ·subst hb; rw [e6]; exact h
       ·rw [hout b o (by omega)]; exact h)
     (fun b s hs => by rw [setCells_shape]; exact hs) (fun _ _ h => h) (fun b o h => .inl h)
     (fun _ => .inl ⟨rfl, Nat.le_refl _, Nat.le_refl _⟩) (fun _ b o h hna => absurd h hna)
     (fun o q1 q2 => (hfree o q1 q2).1) (fun n' hn' => by cases hn') (fun s => by
       refine ⟨by rw [hlc2]; omega, fun o q1 q2 => ?_, fun j c hc => ?_⟩
       ·have := hfree o q1 q2
        unfold Free at this ⊢
        refine ⟨?_, by show (m.w.setCells p.b ao _).frozen? _ = _; rw [World.frozen?_setCells]; exact this.2⟩
        show ((m.w.setCells p.b ao _).cell? _).isSome = true
        rw [e6]; exact this.1
       ·have hj := (List.getElem?_eq_some_iff.1 hc).1
        rw [hlc2] at hj
        obtain ⟨t, rfl, ht⟩ := hval j hj c hc
        refine ⟨g j, ?_, g1 j hj, .t _ _ (s.trel hm ht)⟩
        show (m.w.setCells p.b ao _).cell? _ = _
        rw [show p.lo = ao by omega]
        exact hin j hj)
    refine ⟨.slice (some ⟨p.b, ao, none⟩) ys.length cap, _, ?_, s, hm', rfl, ?_⟩
    ·rw [hrun]
     simp only [addr_add, Nat.zero_mul, Nat.add_zero]
     rw [hst]; rfl
    ·have := SRel.ms (m := ⟨m.A, m.β.set id p, m.H.set id (.cells ((ys.map T.cells).flatten.map .t)), m.w.setCells p.b ao ((List.range (ys.length * sz)).map g)⟩) sz id 0 ys.length cap p (by show (m.β.set id p)[id]? = _; rw [List.getElem?_set_self (List.getElem?_eq_some_iff.1 hp).1]) (fun n' hn' => by
      have h5 : tlOf (m.H.set id (.cells ((ys.map T.cells).flatten.map .t)))[id]? = some n' := hn'
      rw [List.getElem?_set_self (List.getElem?_eq_some_iff.1 hH).1] at h5
      cases h5) hfit (by omega)
     rw [show p.lo + 0 = ao from by omega] at this
     exact this
 ·have hbound : ¬ Builtin.nextslicecap ys.length cap * ti.bytes > 2 ^ 48 := by
   have h1 := nextslicecap_le ys.length cap (by omega)
   have h2 : Builtin.nextslicecap ys.length cap ≤ 2 * ys.length + 512 := by omega
   have h3 := Nat.mul_le_mul_right ti.bytes h2
   rw [Nat.add_mul, Nat.mul_assoc, hti2] at h3
   rw [hti2]; omega
  have hmax : ¬ (((ys.length : Nat) : Int) > IntKind.i64.max ∧ (False ∨ ti.bytes = 0)) := by
   intro h
   have : (IntKind.i64.max : Int) = 9223372036854775807 := by decide
   omega
  obtain ⟨nc, hnc⟩ : ∃ nc, nc = (Question.appendCap ys.length cap e).cut (m.w.tape m.w.drawn (.appendCap ys.length cap e)) := ⟨_, rfl⟩
  have hnc2 : ys.length ≤ nc := by rw [hnc]; simp [Question.cut]
  obtain ⟨zr, hzr⟩ : ∃ zr, zr = Builtin.zeroCells z.cells (nc - ys.length) := ⟨_, rfl⟩
  have hzrl : zr.size = (nc - ys.length) * sz := by rw [hzr]; simp [Builtin.zeroCells, hzl]
  obtain ⟨cs, hcs⟩ : ∃ cs : Array Value, cs = ((List.range (ys.length * sz)).map g).toArray ++ zr := ⟨_, rfl⟩
  have hrun : (Builtin.append_ #[t, t'] ty #[.slice ad 0 cap, .slice ad2 ys.length cap2]).run P m.w =
    .ok (.slice (some ⟨m.w.heap.size, 0, none⟩) ys.length nc) (({ m.w with drawn := m.w.drawn + 1 } : World).alloc (.cells cs e)) := by
   have hfo : (Question.appendCap ys.length cap e).forced = false := rfl
   have hadd : (Builtin.append_ #[t, t'] ty #[.slice ad 0 cap, .slice ad2 ys.length cap2]).run P m.w = (((do
     let old ← Builtin.firstCells sz ([] : List T).length (.slice ad 0 cap)
     let new ← Builtin.firstCells sz ys.length (.slice ad2 ys.length cap2)
     pure (.slice (some (← newRow e (old ++ new ++ zr))) ys.length nc)) : Sem Value).run P { m.w with drawn := m.w.drawn + 1 }) := by
    simp only [Builtin.append_]
    simp [underlying, (hT t i ht).slice hk, (hT t' i' ht').slice hk', (hT e ie he).sizeOf, hs, Builtin.lenOf, hfit, typeInfo, hti, hbound, hmax, hfo, ← hnc, hz1, ← hzr]
    intro h; exfalso; omega
   rw [hadd]
   have hf2 := hf m.w.drew rfl
   simp only [List.length_nil] at hf2
   simp [hf2, hg m.w.drew rfl, newRow]
   rw [hcs]
  have hcsl : cs.size = nc * sz := by
   have h1 : ys.length * sz + (nc - ys.length) * sz = nc * sz := by rw [← Nat.add_mul]; congr 1; omega
   rw [hcs]; simp [hzrl]; omega
  have hmul : ys.length * sz ≤ nc * sz := Nat.mul_le_mul_right _ hnc2
  have hcell : ∀ o, (m.w.drew.alloc (.cells cs e)).cell? ⟨m.w.heap.size, o, none⟩ = cs[o]? := fun o => World.cell?_alloc_new (w := m.w.drew) ..
  have hkeep : ∀ b, b < m.w.heap.size → (m.w.drew.alloc (.cells cs e)).heap[b]? = m.w.heap[b]? := fun b hb => RowKit.Below.heap_alloc m.w.drew _ _ hb
  have hsize : (m.w.drew.alloc (.cells cs e)).heap.size = m.w.heap.size + 1 := by simp
  have hcg : ∀ q, q < ys.length * sz → cs[q]? = some (g q) := fun q hq => by
   rw [hcs, Array.getElem?_append_left (by simpa using hq)]; simp [hq]
  have hfree := hm.blk id p _ hp hH
  obtain ⟨s, hm'⟩ := mv_step hm (k1 := .cells ((ys.map T.cells).flatten.map .t)) (p' := ⟨m.w.heap.size, 0, nc * sz⟩) (A' := m.A) (w' := m.w.drew.alloc (.cells cs e)) hp hH rfl rfl rfl rfl (by rw [hsize]; omega)
   (fun b o hb _ => cell_of_block (hkeep b hb)) (fun b o hb _ _ => frozen_of_block (hkeep b hb)) (fun b hb _ => hkeep b hb) (fun b o hb h => by rw [cell_of_block (hkeep b hb)]; exact h) (fun b s hs => by rw [shape_of_block (hkeep b (shape_lt hs))]; exact hs) (fun _ _ h => h)
   (fun b o h => .inl h)
   (fun _ => .inr (.inl (by rw [hsize]; exact ⟨Nat.le_refl _, Nat.lt_succ_self _⟩))) (fun _ b o h hna => absurd h hna)
   (fun o q1 q2 => (hfree o q1 q2).1) (fun n' hn' => by cases hn') (fun s => by
     refine ⟨by rw [hlc2]; simpa using hmul, fun o q1 q2 => ?_, fun j c hc => ?_⟩
     ·simp only at q1 q2
      refine ⟨?_, World.frozen?_alloc_new (w := m.w.drew) ..⟩
      show ((m.w.drew.alloc (.cells cs e)).cell? ⟨m.w.heap.size, o, none⟩).isSome = true
      rw [hcell, Array.getElem?_eq_getElem (by omega)]; rfl
     ·have hj := (List.getElem?_eq_some_iff.1 hc).1
      rw [hlc2] at hj
      obtain ⟨t, rfl, ht⟩ := hval j hj c hc
      refine ⟨g j, ?_, g1 j hj, .t _ _ (s.trel hm ht)⟩
      show (m.w.drew.alloc (.cells cs e)).cell? ⟨m.w.heap.size, 0 + j, none⟩ = _
      rw [hcell, Nat.zero_add, hcg j hj])
  refine ⟨.slice (some ⟨m.w.heap.size, 0, none⟩) ys.length nc, _, hrun, s, hm', rfl, ?_⟩
  exact SRel.ms sz id 0 ys.length nc ⟨m.w.heap.size, 0, nc * sz⟩ (by show (m.β.set id _)[id]? = _; rw [List.getElem?_set_self (List.getElem?_eq_some_iff.1 hp).1]) (fun n' hn' => by
    have h5 : tlOf (m.H.set id (.cells ((ys.map T.cells).flatten.map .t)))[id]? = some n' := hn'
    rw [List.getElem?_set_self (List.getElem?_eq_some_iff.1 hH).1] at h5
    cases h5) hnc2 (by simp)
variable {all : Array Oper} {rest : List Oper} {d : Nat} {ty : TypeId} {pos : String} {aft : Array Edge}
theorem TO.append0M (hT : TabOk P tab) {t t' e : TypeId} {i i' ie : TyI} {sz id : Nat} {ys : List T} {x y : Operand} {vy : SV} {H' : Heap} (hd : Nat.ble (d + 1) n = true) (ht : tab.get t = some i) (hk : i.k = .slice e) (ht' : tab.get t' = some i') (hk' : i'.k = .slice e)
  (he : tab.get e = some ie) (hs : ie.size = sz) (hpos : Nat.ble 1 sz = true) (hx : env.val x = some (.sl sz [] id)) (hH : H[id]? = some (.tail 0)) (hy : env.val y = some vy) (hvy : vy.elems sz = some ys)
  (hby : Nat.ble ie.bytes 4096 = true) (h0 : 0 < ys.length) (hb1 : ys.length ≤ 10000000000) (hH' : H.set id (.cells ((ys.map T.cells).flatten.map .t)) = H')
  (k : TO false P n all rest ((d, .ms sz id 0 ys.length) :: env) H' K) : TO false P n all (⟨some d, .call { callee := .builtin .append, args := #[x, y], argTypes := #[t, t'] }, ty, pos, aft, none⟩ :: rest) env H K :=
 TO.eff hd (fun m ac h1 h2 h3 => by
  have h4 := Nat.le_of_ble_eq_true hby
  have h5 : ys.length * ie.bytes ≤ 10000000000 * 4096 := Nat.mul_le_mul hb1 h4
  obtain ⟨z, m', r1, s, hm', hHm, hr⟩ := append_runM (P := P) hT h2 (ty := ty) ht hk ht' hk' he hs (Nat.le_of_ble_eq_true hpos) (h3.val hx) (by rw [h1]; exact hH) ((h3.val hy).elems hvy) h0 (by omega) (by omega) (by omega)
  exact ⟨z, m', by simp [execOp, resolve, invoke, builtin, r1], s, hm', by rw [hHm, h1]; exact hH', hr⟩) k
end rules
section rules
variable {P : Program} {all : Array Oper}
def PremH (P : Program) (n : Nat) (all : Array Oper) (full : Env) (G : List Heap) : List Oper → List (SV × Bool) → List Heap → Prop
 | [], [], _ => True
 | o :: l, (v, false) :: t, hs => (∀ H ∈ G, ∀ env, TO false P n all [o] (pickE full (slotsOf all o) ++ env) H (NK (putE o.dst v (pickE full (slotsOf all o) ++ env)) H)) ∧ PremH P n all full G l t hs
 | o :: l, (v, true) :: t, H1 :: H2 :: hs => (∀ env, TO false P n all [o] (pickE full (slotsOf all o) ++ env) H1 (NK (putE o.dst v (pickE full (slotsOf all o) ++ env)) H2)) ∧ PremH P n all full G l t (H2 :: hs)
 | _, _, _ => False
theorem PremH.get {n : Nat} {full : Env} {G : List Heap} : ∀ {l : List Oper} {t : List (SV × Bool)} {hs : List Heap}, PremH P n all full G l t hs → l.length = t.length ∧ ∀ (i : Nat) o v b, l[i]? = some o → t[i]? = some (v, b) →
   (b = false → ∀ H ∈ G, ∀ env, TO false P n all [o] (pickE full (slotsOf all o) ++ env) H (NK (putE o.dst v (pickE full (slotsOf all o) ++ env)) H)) ∧
   (b = true → ∃ H1 H2, hs[effs t i]? = some H1 ∧ hs[effs t i + 1]? = some H2 ∧ ∀ env, TO false P n all [o] (pickE full (slotsOf all o) ++ env) H1 (NK (putE o.dst v (pickE full (slotsOf all o) ++ env)) H2))
 | [], [], hs, _ => by simp
 | o :: l, (v, false) :: t, hs, h => by
   obtain ⟨h1, h2⟩ := h
   obtain ⟨g1, g2⟩ := PremH.get h2
   refine ⟨by simp [g1], fun i o' v' b' ho hv => ?_⟩
   cases i with
   | zero => simp at ho hv; obtain ⟨rfl, rfl⟩ := hv; subst ho; exact ⟨fun _ => h1, fun e => by cases e⟩
   | succ i =>
     have := g2 i o' v' b' (by simpa using ho) (by simpa using hv)
     simpa [effs] using this
 | o :: l, (v, true) :: t, H1 :: H2 :: hs, h => by
   obtain ⟨h1, h2⟩ := h
   obtain ⟨g1, g2⟩ := PremH.get h2
   refine ⟨by simp [g1], fun i o' v' b' ho hv => ?_⟩
   cases i with
   | zero => simp at ho hv; obtain ⟨rfl, rfl⟩ := hv; subst ho; exact ⟨fun e => by (cases e), fun _ => ⟨H1, H2, rfl, rfl, h1⟩⟩
   | succ i =>
     have := g2 i o' v' b' (by simpa using ho) (by simpa using hv)
     have e : effs ((v, true) :: t) (i + 1) = effs t i + 1 := by simp [effs]
     rw [e]
     simpa using this
 | o :: l, (v, true) :: t, [], h => by exact h.elim
 | o :: l, (v, true) :: t, [_], h => by exact h.elim
 | [], _ :: _, _, h => by exact h.elim
 | _ :: _, [], _, h => by exact h.elim
theorem TR.regionH {n : Nat} {env0 envF : Env} {H0 HF : Heap} {K : TK} {id' : Nat} {l : List Oper} (t : List (SV × Bool)) (hs : List Heap) (hm : P.follows .mixedOrders = true) (hB : mixB l.toArray (t.map (·.2)) = true) (h0 : hs[0]? = some H0)
  (hp : PremH P n l.toArray (fullE l.toArray (t.map (·.1)) env0) hs l t hs) (hF : hs[((t.map (·.2)).filter id).length]? = some HF) (hE : forceL (fullE l.toArray (t.map (·.1)) env0) = some envF) (hK : K .normal envF HF) :
  TR P n (.region id' l.toArray true) env0 H0 K := by
 obtain ⟨g1, g2⟩ := hp.get
 intro φ m a h1 h2 h3 h4
 have hef : ∀ i, ((t.map (·.2)).take i |>.filter id).length = effs t i := by
  intro i
  unfold effs
  rw [← List.map_take, List.filter_map, List.length_map]
  rfl
 have s0 : Step m ⟨m.A, m.β, m.H, { m.w with drawn := m.w.drawn + 1 }⟩ ∧ HRel ⟨m.A, m.β, m.H, { m.w with drawn := m.w.drawn + 1 }⟩ := keep_ok h2 ⟨rfl, rfl, rfl, Nat.le_refl _, fun _ _ => rfl⟩
 refine wpr_of_in (wpIn_region_any hm ?_)
 refine any_mixW [] (G := fun _ => True) (vs := t.map (·.1)) (fl := t.map (·.2)) (hs := hs) (m0 := m) (fun t ht => by cases ht) hB (by simp [g1]) (by simp [g1]) ?_ ?_ hF (fun _ => by rw [forceL_eq hE] at hK; exact hK) l.toArray.size (Array.replicate l.toArray.size false)
  ⟨m.A, m.β, m.H, { m.w with drawn := m.w.drawn + 1 }⟩ a (by simp) ?_ ?_ ?_ s0.1 s0.2 ?_ (h4.step h2 s0.1)
 ·intro i o v ho hv hb c H hcH env
  obtain ⟨⟨v', b⟩, hx, rfl⟩ : ∃ x, t[i]? = some x ∧ x.1 = v := by simpa using hv
  have hb' : b = false := by
   rw [List.getD_eq_getElem?_getD, List.getElem?_map, hx] at hb
   simpa using hb
  exact ((g2 i o v' b (by simpa using ho) hx).1 hb' H (List.mem_of_getElem? hcH) env).nkp trivial
 ·intro i o v ho hv hb
  obtain ⟨⟨v', b⟩, hx, rfl⟩ : ∃ x, t[i]? = some x ∧ x.1 = v := by simpa using hv
  have hb' : b = true := by
   rw [List.getD_eq_getElem?_getD, List.getElem?_map, hx] at hb
   simpa using hb
  have := (g2 i o v' b (by simpa using ho) hx).2 hb'
  rw [hef]
  obtain ⟨H1, H2, e1, e2, e3⟩ := this
  exact ⟨H1, H2, e1, e2, fun env => (e3 env).nkp trivial⟩
 ·intro i hi
  rw [Array.getElem?_replicate] at hi
  split at hi <;> cases hi
 ·unfold unl
  have := List.length_filter_le (fun i => (Array.replicate l.toArray.size false)[i]? == some false) (List.range l.toArray.size)
  simpa using this
 ·refine ⟨0, fun i hi => ⟨fun h => by omega, fun h => ?_⟩, Nat.zero_le _, by rw [h0]; simp [h1], fun j h => ?_⟩
  all_goals
   rw [Array.getElem?_replicate] at h
   split at h <;> cases h
 ·have : envA l.toArray (t.map (·.1)) (fun i => (Array.replicate l.toArray.size false).getD i false) (List.range l.toArray.size) = [] := by
   have : ∀ x : List Nat, envA l.toArray (t.map (·.1)) (fun i => (Array.replicate l.toArray.size false).getD i false) x = [] := by
    intro x
    induction x with
    | nil => rfl
    | cons i x ih =>
      have : (Array.replicate l.toArray.size false).getD i false = false := by
       rw [Array.getD_eq_getD_getElem?, Array.getElem?_replicate]
       split <;> rfl
      simp only [envA, this, ih]
   exact this _
  rw [this, List.nil_append]
  exact h3.step h2 s0.1
end rules
end Go.TL
namespace Go.Proofs.YtlocalghkiepmaaGreat
open Go Go.TL
attribute [local irreducible] TR TO Then InBlock RetK Sound LoopK Kf GG ThenL
theorem splice_app {a b : List SV} {o : Nat} {y : List SV} : splice (a ++ b) (a.length + o) y = a ++ splice b o y := by
 unfold splice
 rw [List.take_length_add_append, show a.length + o + y.length = a.length + (o + y.length) by omega, List.drop_length_add_append]
 simp
theorem splice_mid4 {u v v' w r : List SV} (hv : v'.length = v.length) : splice (u ++ v ++ w ++ r) u.length v' = u ++ v' ++ w ++ r := by
 have := splice_app (a := u) (b := v ++ w ++ r) (o := 0) (y := v')
 rw [Nat.add_zero] at this
 rw [show u ++ v ++ w ++ r = u ++ (v ++ w ++ r) by simp, this]
 unfold splice
 rw [Nat.zero_add, hv, show v ++ w ++ r = v ++ (w ++ r) by simp, List.drop_left]
 simp
theorem flat_mod {α : Type} {g : α → T} {sz : Nat} (hg : ∀ a, (g a).cells.length = sz) {u v v' w : List T} (hv : v'.length = v.length) {f : α → α} : ∀ (l : List α) (i : Nat) (h : i < l.length), (g l[i]).cells = u ++ v ++ w → (g (f l[i])).cells = u ++ v' ++ w →
  splice (((l.map g).map T.cells).flatten.map SV.t) (i * sz + u.length) (v'.map .t) = (((l.modify i f).map g).map T.cells).flatten.map SV.t
 | a :: l, 0, h, h1, h2 => by
   simp only [List.getElem_cons_zero] at h1 h2
   rw [List.modify_zero_cons]
   simp only [List.map_cons, List.flatten_cons, List.map_append, h1, h2]
   have := splice_mid4 (u := u.map SV.t) (v := v.map SV.t) (v' := v'.map SV.t) (w := w.map SV.t) (r := (((l.map g).map T.cells).flatten.map SV.t)) (by simpa using hv)
   rw [List.length_map] at this
   rw [Nat.zero_mul, Nat.zero_add]
   exact this
 | a :: l, i + 1, h, h1, h2 => by
   simp only [List.getElem_cons_succ] at h1 h2
   have := flat_mod hg hv l i (by simpa using h) h1 h2
   rw [List.modify_succ_cons]
   simp only [List.map_cons, List.flatten_cons, List.map_append]
   rw [← this, show (i + 1) * sz + u.length = ((g a).cells.map SV.t).length + (i * sz + u.length) by rw [List.length_map, hg, Nat.succ_mul]; omega, splice_app]
theorem equ_cells (u : Equ) : (equT u).cells.length = 7 := rfl
theorem nod_cells (n : Nod) : (nodT n).cells.length = 8 := rfl
theorem sampE_flat (c : Str) (l : List Equ) (k : Nat) (h : k < l.length) : splice (((l.map equT).map T.cells).flatten.map SV.t) (k * 7 + 1) ((exC (whenX c l[k].right)).map .t) = (((l.modify k (sampE c)).map equT).map T.cells).flatten.map SV.t :=
 flat_mod (u := [.sl 1 (l[k].left.map T.s)]) (v := exC l[k].right) (w := []) (v' := exC (whenX c l[k].right)) (f := sampE c) equ_cells rfl l k h rfl rfl
theorem sampN_flat (c : Str) (k : Nat) (l : List Nod) (i : Nat) (h : i < l.length) : splice (((l.map nodT).map T.cells).flatten.map SV.t) (i * 8 + 4) [.t (.sl 7 ((l[i].eqs.modify k (sampE c)).map equT))] = (((l.modify i (sampN c k)).map nodT).map T.cells).flatten.map SV.t :=
 flat_mod (u := [.s l[i].name, .sl 3 (l[i].ins.map declT), .sl 3 (l[i].outs.map declT), .sl 3 (l[i].locals.map declT)]) (v := [.sl 7 (l[i].eqs.map equT)]) (w := [.sl 1 (l[i].autos.map autoT), .sl 6 (l[i].assume.map exT), .sl 6 (l[i].ensure.map exT)]) (v' := [.sl 7 ((l[i].eqs.modify k (sampE c)).map equT)]) (f := sampN c k) nod_cells rfl l i h rfl rfl
theorem flatC_len {α : Type} {g : α → T} {sz : Nat} (hg : ∀ a, (g a).cells.length = sz) (l : List α) : (((l.map g).map T.cells).flatten.map SV.t).length = l.length * sz := by
 rw [List.length_map, (flat_cells (l.map g) (fun e he => by obtain ⟨a, _, rfl⟩ := List.mem_map.1 he; exact hg a)).1, List.length_map]
theorem splice1_set {cs : List SV} {q : Nat} {x y : SV} (h : q < cs.length) : (splice cs q [x]).set q y = splice cs q [y] := by
 unfold splice
 have ht : (cs.take q).length = q := by rw [List.length_take]; omega
 rw [List.append_assoc, List.append_assoc, List.set_append_right _ _ (by omega), ht, Nat.sub_self]
 rfl
theorem splice1_get {cs : List SV} {q : Nat} {x : SV} (h : q < cs.length) : (splice cs q [x])[q]? = some x := by
 unfold splice
 have ht : (cs.take q).length = q := by rw [List.length_take]; omega
 rw [List.append_assoc, List.getElem?_append_right (by omega), ht]
 simp
theorem splice_len {cs y : List SV} {q : Nat} (h : q + y.length ≤ cs.length) : (splice cs q y).length = cs.length := by
 unfold splice; simp; omega
theorem sum_mod {α : Type} (g : α → Nat) (f : α → α) (D : Nat) (hD : ∀ a, g (f a) ≤ g a + D) : ∀ (l : List α) (i : Nat), ((l.modify i f).map g).sum ≤ (l.map g).sum + D
 | [], i => by simp
 | a :: l, 0 => by have := hD a; simp; omega
 | a :: l, i + 1 => by have := sum_mod g f D hD l i; simp; omega
theorem samp_w (c : Str) (i k : Nat) (p : Prog) : (T.ag (progC (sampP c i k p))).w ≤ (T.ag (progC p)).w + (c.length + 20) := by
 have h1 : ∀ u, (equT (sampE c u)).w ≤ (equT u).w + (c.length + 20) := fun u => by
  have h0 : (exT u.right).w = 1 + ((exC u.right).map T.w).sum := by rw [exT_eq, w_ag]
  rw [show equT (sampE c u) = .ag (.sl 1 (u.left.map T.s) :: exC (whenX c u.right)) from rfl, show equT u = .ag (.sl 1 (u.left.map T.s) :: exC u.right) from rfl, w_ag, w_ag]
  rw [show exC (whenX c u.right) = [T.i 8, T.i 0, T.i 1, T.i 1, .s c, .sl 6 [exT u.right]] from rfl]
  simp only [List.map_cons, List.map_nil, List.sum_cons, List.sum_nil, w_s, w_sl, h0]
  simp only [T.w, strW]
  omega
 have h2 : ∀ n, (nodT (sampN c k n)).w ≤ (nodT n).w + (c.length + 20) := fun n => by
  rw [show nodT (sampN c k n) = .ag [.s n.name, .sl 3 (n.ins.map declT), .sl 3 (n.outs.map declT), .sl 3 (n.locals.map declT), .sl 7 ((n.eqs.modify k (sampE c)).map equT), .sl 1 (n.autos.map autoT), .sl 6 (n.assume.map exT), .sl 6 (n.ensure.map exT)] from rfl]
  rw [show nodT n = .ag [.s n.name, .sl 3 (n.ins.map declT), .sl 3 (n.outs.map declT), .sl 3 (n.locals.map declT), .sl 7 (n.eqs.map equT), .sl 1 (n.autos.map autoT), .sl 6 (n.assume.map exT), .sl 6 (n.ensure.map exT)] from rfl, w_ag, w_ag]
  have := sum_mod (fun u => (equT u).w) (sampE c) _ h1 n.eqs k
  simp only [List.map_cons, List.map_nil, List.sum_cons, List.sum_nil, w_sl 7, List.map_map, Function.comp_def] at this ⊢
  omega
 have h3 := sum_mod (fun n => (nodT n).w) (sampN c k) _ h2 p.nodes i
 rw [show progC (sampP c i k p) = [.sl 2 (p.enums.map enT), .sl 8 ((p.nodes.modify i (sampN c k)).map nodT)] from rfl, show progC p = [.sl 2 (p.enums.map enT), .sl 8 (p.nodes.map nodT)] from rfl, w_ag, w_ag]
 simp only [List.map_cons, List.map_nil, List.sum_cons, List.sum_nil, w_sl 8, List.map_map, Function.comp_def] at h3 ⊢
 omega
theorem mem4 {α : Type} {a b c d x : α} (h : x ∈ [a, b, c, d]) : x = a ∨ x = b ∨ x = c ∨ x = d := by simpa using h
theorem mem2 {α : Type} {a b x : α} (h : x ∈ [a, b]) : x = a ∨ x = b := by simpa using h
abbrev flatN (l : List Nod) : List SV := ((l.map nodT).map T.cells).flatten.map SV.t
abbrev flatE (l : List Equ) : List SV := ((l.map equT).map T.cells).flatten.map SV.t
set_option maxHeartbeats 8000000 in
theorem clocksSampled_law (p : Prog) (hw : (T.ag (progC p)).w ≤ 30000000) : Pure Tryz.prog 9 [.t (.ag (progC p))] (.b true) := by
 have hp : ArgK p := ⟨by omega⟩
 have h0 := awake12_sound
 have hh := heavy_sound p hp.w
 have hc := clocksX_sound p hp.w
 have hfo := found_sound p hp
 have hpc : progC p = [.sl 2 (p.enums.map enT), nodesT p.nodes] := rfl
 generalize heavyP p = hv at *
 cases hv with
 | true =>
   rw [hpc] at *
   refine Sound.of tabOk Tryz.func9 (by kernel_rfl) rfl rfl ?_
   repeat' (first | refine wkt ?_ | refine wka ?_ | refine wk ?_ | exact wkc | intro hc | refine wk2 ?_ ?_ | refine wv hh ?_ | refine wv h0 ?_ | fail)
   exact wkr
 | false =>
 by_cases h3 : (clocksX p).2 = 0
 rotate_left
 ·generalize clocksX p = t at *
  obtain ⟨⟨t1, t2⟩, t3⟩ := t
  simp only at h3 hc
  rw [hpc] at *
  refine Sound.of tabOk Tryz.func9 (by kernel_rfl) rfl rfl ?_
  repeat' (first | refine wkt ?_ | refine wka ?_ | refine wk ?_ | exact wkc | intro hc | refine wk2 ?_ ?_ | refine wv hh ?_ | refine wv hc ?_ | refine wv h0 ?_ | fail)
  all_goals first
   | exact wkr
   | (exfalso; omega)
 unfold foundV at hfo
 cases hfx : foundX p with
 | none =>
   rw [hfx] at hfo
   generalize clocksX p = t at *
   obtain ⟨⟨t1, t2⟩, t3⟩ := t
   simp only at h3 hc
   subst h3
   rw [hpc] at *
   refine Sound.of tabOk Tryz.func9 (by kernel_rfl) rfl rfl ?_
   repeat' (first | refine wkt ?_ | refine wka ?_ | refine wk ?_ | exact wkc | intro hc | refine wk2 ?_ ?_ | refine wv hh ?_ | refine wv hc ?_ | refine wv hfo ?_ | refine wv h0 ?_ | fail)
   all_goals first
    | exact wkr
    | (exfalso; omega)
 | some x =>
 obtain ⟨i, k, c⟩ := x
 rw [hfx] at hfo
 simp only at hfo
 obtain ⟨hi, hk, ⟨s, hl, hs⟩, d, hd, rfl⟩ := found_good hfx
 obtain ⟨hP, hln, hpl⟩ := smallP_of hp.w
 have hpn := hP.nodes
 have hi63 : (i : Int) ≤ 9223372036854775807 := by omega
 have hlaw := fun ht => sampled_law h3 hi hi63 hk hl hs (c := d.name) ht
 have hml : (p.nodes.map nodT).length = p.nodes.length := List.length_map _
 have hsw := samp_w d.name i k p
 have hnm : d.name.length ≤ (T.ag (progC p)).w := by
  have h1 := (name_decl hd).1
  have h2 := w_nod p.nodes[i]
  have h4 := w_inM (f := nodT) (sz := 8) (List.getElem_mem hi)
  have h5 : (T.ag (progC p)).w = 1 + ((T.sl 2 (p.enums.map enT)).w + ((T.sl 8 (p.nodes.map nodT)).w + 0)) := by rw [hpc, w_ag]; rfl
  omega
 have hty := typesX_sound (sampP d.name i k p) (by omega)
 have hcl := clocksX_sound (sampP d.name i k p) (by omega)
 have hx := at_nod hi
 have hx2 := at_equ hk
 have hel : p.nodes[i].eqs.length ≤ 1000000000 := by
  have h1 := hln _ (List.getElem_mem hi)
  have h2 := w_nod p.nodes[i]
  have l2 := w_lenM equT 7 p.nodes[i].eqs
  omega
 have f1 : splice (flatN p.nodes) (i * 8 + 4) [.t (.sl 7 ((p.nodes[i].eqs.modify k (sampE d.name)).map equT))] = ((p.nodes.modify i (sampN d.name k)).map nodT |>.map T.cells).flatten.map SV.t := sampN_flat d.name k p.nodes i hi
 have f2 : splice (flatE p.nodes[i].eqs) (k * 7 + 1) ((exC (whenX d.name p.nodes[i].eqs[k].right)).map .t) = ((p.nodes[i].eqs.modify k (sampE d.name)).map equT |>.map T.cells).flatten.map SV.t := sampE_flat d.name p.nodes[i].eqs k hk
 rw [show exC (whenX d.name p.nodes[i].eqs[k].right) = [T.i 8, T.i 0, T.i 1, T.i 1, .s d.name, .sl 6 [exT p.nodes[i].eqs[k].right]] from rfl, exT_eq] at f2
 have g1 : (flatN p.nodes).length = p.nodes.length * 8 := flatC_len nod_cells p.nodes
 have g2 : (flatE p.nodes[i].eqs).length = p.nodes[i].eqs.length * 7 := flatC_len equ_cells p.nodes[i].eqs
 rw [show progC (sampP d.name i k p) = [.sl 2 (p.enums.map enT), .sl 8 ((p.nodes.modify i (sampN d.name k)).map nodT)] from rfl] at hty hcl
 have z1 : ((p.nodes.modify i (sampN d.name k)).map nodT).length = (p.nodes.map nodT).length := by simp
 have z2 : ((p.nodes[i].eqs.modify k (sampE d.name)).map equT).length = (p.nodes[i].eqs.map equT).length := by simp
 have z3 : ∀ e ∈ (p.nodes.modify i (sampN d.name k)).map nodT, e.cells.length = 8 := fun e he => by obtain ⟨a, _, rfl⟩ := List.mem_map.1 he; rfl
 have z4 : ∀ e ∈ (p.nodes[i].eqs.modify k (sampE d.name)).map equT, e.cells.length = 7 := fun e he => by obtain ⟨a, _, rfl⟩ := List.mem_map.1 he; rfl
 generalize (p.nodes.modify i (sampN d.name k)).map nodT = N2 at *
 generalize (p.nodes[i].eqs.modify k (sampE d.name)).map equT = E2 at *
 generalize typesX (sampP d.name i k p) = ty at *
 generalize clocksX (sampP d.name i k p) = cx at *
 generalize clocksX p = t at *
 obtain ⟨⟨t1, t2⟩, t3⟩ := t
 obtain ⟨⟨y1, y2⟩, y3⟩ := ty
 simp only at h3 hc hlaw hty
 subst h3
 have hme : (p.nodes[i].eqs.map equT).length = p.nodes[i].eqs.length := List.length_map _
 generalize p.nodes[i].eqs[k] = u at *
 generalize p.nodes[i] = n at *
 have hld : (splice (flatN p.nodes) (0 + i * 8 + 4) [.ms 7 3 0 (n.eqs.map equT).length])[0 + i * 8 + 4]? = some (.ms 7 3 0 (n.eqs.map equT).length) := splice1_get (by omega)
 unfold exC at f2
 unfold nodC at hx
 unfold equC at hx2
 rw [hpc] at *
 refine Sound.of tabOk Tryz.func9 (by kernel_rfl) rfl rfl ?_
 repeat' (first | refine wkb ?_ | refine wv hh ?_ | refine wv hc ?_ | refine wv hfo ?_ | refine wk ?_ | exact wkc | fail)
 refine wk2 ?_ ?_
 ·exact wkc
 intro _
 repeat' (first | refine wkb ?_ | refine wv hh ?_ | refine wv hc ?_ | refine wv hfo ?_ | refine wk ?_ | exact wkc | fail)
 refine wk2 ?_ ?_
 ·exact wkc
 intro _
 repeat' (first | (apply TO.build0 tabOk; iterate 5 exact rfl) | (apply TO.append0M tabOk; (iterate 13 exact rfl); (rw [hml]; omega); (rw [hml]; omega); exact rfl) | (apply Go.TL.TO.go tabOk 0 false; exact rfl; (first | apply Go.TL.GG.to | apply Go.TL.GG.stop | apply Go.TL.GG.tr0 | apply Go.TL.GG.tr | apply Go.TL.GG.ex)) | (apply Go.TL.TR.go0 tabOk 0 false; exact rfl; (first | apply Go.TL.GG.to | apply Go.TL.GG.stop | apply Go.TL.GG.tr0 | apply Go.TL.GG.tr | apply Go.TL.GG.ex)) | (apply Go.TL.TR.go tabOk 0 false; exact rfl; (first | apply Go.TL.GG.to | apply Go.TL.GG.stop | apply Go.TL.GG.tr0 | apply Go.TL.GG.tr | apply Go.TL.GG.ex)) | (apply Go.TL.TExit.go tabOk 0 false; exact rfl; (first | apply Go.TL.GG.to | apply Go.TL.GG.stop | apply Go.TL.GG.tr0 | apply Go.TL.GG.tr | apply Go.TL.GG.ex)) | fail)
 refine TR.regionH (envF := ?envF) (HF := [.cells [.t (T.i t1), .t (T.i t2)], .cells [.t (.sl 2 (p.enums.map enT)), .ms 8 2 0 (p.nodes.map nodT).length], .cells (splice (flatN p.nodes) (0 + i * 8 + 4) [.ms 7 3 0 (n.eqs.map equT).length]), .cells (flatE n.eqs)]) [(.ref 1 1, false), (.ms 8 2 0 (p.nodes.map nodT).length, false), (.i i, false), (.sl 7 [] 3, true), (.cp [.sl 2 (p.enums.map enT), nodesT p.nodes] 1, false), (.t (nodesT p.nodes), false), (.i i, false), (.cp [.s n.name, declsT n.ins, declsT n.outs, declsT n.locals, .sl 7 (n.eqs.map equT), .sl 1 (n.autos.map autoT), .sl 6 (n.assume.map exT), .sl 6 (n.ensure.map exT)] 0, false), (.cp [.s n.name, declsT n.ins, declsT n.outs, declsT n.locals, .sl 7 (n.eqs.map equT), .sl 1 (n.autos.map autoT), .sl 6 (n.assume.map exT), .sl 6 (n.ensure.map exT)] 4, false), (.t (.sl 7 (n.eqs.map equT)), false), (.ms 7 3 0 (n.eqs.map equT).length, true), (.ref 2 (0 + i * 8), false), (.ref 2 (0 + i * 8 + 4), false), (.any, true)] [[.cells [.t (T.i t1), .t (T.i t2)], .cells [.t (.sl 2 (p.enums.map enT)), .ms 8 2 0 (p.nodes.map nodT).length], .cells (flatN p.nodes)], [.cells [.t (T.i t1), .t (T.i t2)], .cells [.t (.sl 2 (p.enums.map enT)), .ms 8 2 0 (p.nodes.map nodT).length], .cells (flatN p.nodes), .tail 0], [.cells [.t (T.i t1), .t (T.i t2)], .cells [.t (.sl 2 (p.enums.map enT)), .ms 8 2 0 (p.nodes.map nodT).length], .cells (flatN p.nodes), .cells (flatE n.eqs)], [.cells [.t (T.i t1), .t (T.i t2)], .cells [.t (.sl 2 (p.enums.map enT)), .ms 8 2 0 (p.nodes.map nodT).length], .cells (splice (flatN p.nodes) (0 + i * 8 + 4) [.ms 7 3 0 (n.eqs.map equT).length]), .cells (flatE n.eqs)]] hmix ?hB ?h0 ?hp ?hF ?hE ?hK
 case hB => (dsimp only [List.map]; decide +kernel)
 case h0 => exact rfl
 case hF => exact rfl
 case hE => exact rfl
 case hp =>
  repeat' (first | (refine And.intro (fun H hH env => ?_) ?_; rcases mem4 hH with rfl | rfl | rfl | rfl) | refine And.intro (fun env => ?_) ?_ | (apply TO.build0 tabOk; iterate 5 exact rfl) | (apply TO.append0M tabOk; (iterate 13 exact rfl); (rw [hme]; omega); (rw [hme]; omega); exact rfl) | (apply TO.indexAddr_ms tabOk; (iterate 7 exact rfl); omega; (rw [hml]; omega)) | (apply TO.store tabOk; (iterate 6 exact rfl); exact Nat.le_of_ble_eq_true rfl; exact rfl; exact (show 0 + i * 8 + 4 + 1 ≤ (flatN p.nodes).length by omega); exact rfl) | refine wkb ?_ | exact trivial | exact And.intro rfl rfl | refine wk ?_ | fail)
  done
 case hK =>
 refine wkb ?_
 refine TR.regionH (envF := ?envG) (HF := [.cells [.t (T.i t1), .t (T.i t2)], .cells [.t (.sl 2 (p.enums.map enT)), .ms 8 2 0 (p.nodes.map nodT).length], .cells (splice (flatN p.nodes) (0 + i * 8 + 4) [.ms 7 3 0 (n.eqs.map equT).length]), .cells (splice (flatE n.eqs) (0 + k * 7 + 1) ([T.i 8, T.i 0, T.i 1, T.i 1, .s d.name, .sl 6 [.ag [T.n u.right.kind, T.n u.right.op, T.n u.right.t, T.n u.right.v, .s u.right.name, .sl 6 (u.right.args.map exT)]]].map SV.t))]) [(.ref 1 1, false), (.ms 8 2 0 (p.nodes.map nodT).length, false), (.i i, false), (.ref 2 (0 + i * 8), false), (.ref 2 (0 + i * 8 + 4), false), (.ms 7 3 0 (n.eqs.map equT).length, false), (.i k, false), (.s d.name, false), (.cp [.sl 2 (p.enums.map enT), nodesT p.nodes] 1, false), (.t (nodesT p.nodes), false), (.i i, false), (.cp [.s n.name, declsT n.ins, declsT n.outs, declsT n.locals, .sl 7 (n.eqs.map equT), .sl 1 (n.autos.map autoT), .sl 6 (n.assume.map exT), .sl 6 (n.ensure.map exT)] 0, false), (.cp [.s n.name, declsT n.ins, declsT n.outs, declsT n.locals, .sl 7 (n.eqs.map equT), .sl 1 (n.autos.map autoT), .sl 6 (n.assume.map exT), .sl 6 (n.ensure.map exT)] 4, false), (.t (.sl 7 (n.eqs.map equT)), false), (.i k, false), (.cp [.sl 1 (u.left.map T.s), T.n u.right.kind, T.n u.right.op, T.n u.right.t, T.n u.right.v, .s u.right.name, .sl 6 (u.right.args.map exT)] 0, false), (.cp [.sl 1 (u.left.map T.s), T.n u.right.kind, T.n u.right.op, T.n u.right.t, T.n u.right.v, .s u.right.name, .sl 6 (u.right.args.map exT)] 1, false), (.t (.ag [T.n u.right.kind, T.n u.right.op, T.n u.right.t, T.n u.right.v, .s u.right.name, .sl 6 (u.right.args.map exT)]), false), (.t (.sl 6 [.ag [T.n u.right.kind, T.n u.right.op, T.n u.right.t, T.n u.right.v, .s u.right.name, .sl 6 (u.right.args.map exT)]]), false), (.t (.ag [T.i 8, T.i 0, T.i 1, T.i 1, .s d.name, .sl 6 [.ag [T.n u.right.kind, T.n u.right.op, T.n u.right.t, T.n u.right.v, .s u.right.name, .sl 6 (u.right.args.map exT)]]]), false), (.ref 3 (0 + k * 7), false), (.ref 3 (0 + k * 7 + 1), false), (.any, true)] [[.cells [.t (T.i t1), .t (T.i t2)], .cells [.t (.sl 2 (p.enums.map enT)), .ms 8 2 0 (p.nodes.map nodT).length], .cells (splice (flatN p.nodes) (0 + i * 8 + 4) [.ms 7 3 0 (n.eqs.map equT).length]), .cells (flatE n.eqs)], [.cells [.t (T.i t1), .t (T.i t2)], .cells [.t (.sl 2 (p.enums.map enT)), .ms 8 2 0 (p.nodes.map nodT).length], .cells (splice (flatN p.nodes) (0 + i * 8 + 4) [.ms 7 3 0 (n.eqs.map equT).length]), .cells (splice (flatE n.eqs) (0 + k * 7 + 1) ([T.i 8, T.i 0, T.i 1, T.i 1, .s d.name, .sl 6 [.ag [T.n u.right.kind, T.n u.right.op, T.n u.right.t, T.n u.right.v, .s u.right.name, .sl 6 (u.right.args.map exT)]]].map SV.t))]] hmix ?gB ?g0 ?gp ?gF ?gE ?gK
 case gB => (dsimp only [List.map]; decide +kernel)
 case g0 => exact rfl
 case gF => exact rfl
 case gE => exact rfl
 case gp =>
  repeat' (first | (refine And.intro (fun H hH env => ?_) ?_; rcases mem2 hH with rfl | rfl) | refine And.intro (fun env => ?_) ?_ | (apply TO.load_ref tabOk; (iterate 5 exact rfl); exact hld) | (apply TO.indexAddr_ms tabOk; (iterate 7 exact rfl); omega; (first | (rw [hml]; omega) | (rw [hme]; omega))) | (apply TO.store tabOk; (iterate 6 exact rfl); exact Nat.le_of_ble_eq_true rfl; exact rfl; exact (show 0 + k * 7 + 1 + 6 ≤ (flatE n.eqs).length by omega); exact rfl) | refine wkb ?_ | exact trivial | exact And.intro rfl rfl | refine wk ?_ | fail)
  done
 case gK =>
 iterate 3 (first | (apply Go.TL.TO.go tabOk 0 false; exact rfl; (first | apply Go.TL.GG.to | apply Go.TL.GG.stop | apply Go.TL.GG.tr0 | apply Go.TL.GG.tr | apply Go.TL.GG.ex)) | (apply Go.TL.TR.go0 tabOk 0 false; exact rfl; (first | apply Go.TL.GG.to | apply Go.TL.GG.stop | apply Go.TL.GG.tr0 | apply Go.TL.GG.tr | apply Go.TL.GG.ex)) | (apply Go.TL.TR.go tabOk 0 false; exact rfl; (first | apply Go.TL.GG.to | apply Go.TL.GG.stop | apply Go.TL.GG.tr0 | apply Go.TL.GG.tr | apply Go.TL.GG.ex)) | (apply Go.TL.TO.go0 tabOk 0 false; exact rfl; (first | apply Go.TL.GG.to | apply Go.TL.GG.stop | apply Go.TL.GG.tr0 | apply Go.TL.GG.tr | apply Go.TL.GG.ex)) | (apply Go.TL.TExit.go tabOk 0 false; exact rfl; (first | apply Go.TL.GG.to | apply Go.TL.GG.stop | apply Go.TL.GG.tr0 | apply Go.TL.GG.tr | apply Go.TL.GG.ex)))
 refine TO.freezeC 2 (0 + i * 8 + 4) 7 3 (n.eqs.map equT).length (es := E2) (H' := [.cells [.t (T.i t1), .t (T.i t2)], .cells [.t (.sl 2 (p.enums.map enT)), .ms 8 2 0 (p.nodes.map nodT).length], .cells ((N2.map T.cells).flatten.map SV.t), .dead]) rfl rfl hld rfl (by rw [z2, hme, splice_len (show 0 + k * 7 + 1 + 6 ≤ (flatE n.eqs).length by omega)]; omega) (fun j c hj => by rw [Nat.zero_add]; rw [← f2] at hj; exact hj) z2.symm z4 rfl (by rw [splice1_set (show 0 + i * 8 + 4 < (flatN p.nodes).length by omega), Nat.zero_add, f1]; rfl) ?_
 refine TO.freezeC 1 1 8 2 (p.nodes.map nodT).length (es := N2) (H' := [.cells [.t (T.i t1), .t (T.i t2)], .cells [.t (.sl 2 (p.enums.map enT)), .t (.sl 8 N2)], .dead, .dead]) rfl rfl rfl rfl (by rw [List.length_map, (flat_cells N2 z3).1]; exact Nat.le_refl _) (fun j c hj => hj) z1.symm z3 rfl rfl ?_
 by_cases hy : y3 = 0
 ·have hq := hlaw hy
  subst hy
  subst hq
  simp only at hcl
  repeat' (first | refine wEqW ?_ | refine wkt ?_ | refine wka ?_ | refine wv hty ?_ | refine wv hcl ?_ | refine wv h0 ?_ | refine wk ?_ | exact wkc | intro hc | refine wk2 ?_ ?_ | fail)
  all_goals first
   | exact wkr
   | (exfalso; omega)
 ·repeat' (first | refine wkb ?_ | refine wv hty ?_ | refine wv h0 ?_ | refine wk ?_ | exact wkc | intro hc | refine wk2 ?_ ?_ | fail)
  all_goals first
   | exact wkr
   | (exfalso; omega)
end Go.Proofs.YtlocalghkiepmaaGreat
