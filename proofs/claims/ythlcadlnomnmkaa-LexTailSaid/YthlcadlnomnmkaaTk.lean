/-
  Small rules for the walk.
-/
import Derived.Test.YthlcadlnomnmkaaTj
set_option linter.unusedVariables false
set_option linter.unusedSimpArgs false
namespace Go.TL
open Go

section rules
variable {P : Program} {n : Nat} {env : Env} {H : Heap} {K : TK} {all : Array Oper} {rest : List Oper} {tab : Tab} {q : Bool}
variable {d : Nat} {ty : TypeId} {pos : String} {aft : Array Edge}

theorem Then.normal {y : Code} (h : TR P n y env H K) : Then P n y K .normal env H := h
theorem Then.exit {y : Code} {i : Nat} (h : K (.exit i) env H) : Then P n y K (.exit i) env H := h
theorem Then.ret {y : Code} (h : K .ret env H) : Then P n y K .ret env H := h
theorem Then.panic {y : Code} {v : SV} (h : K (.panic v) env H) : Then P n y K (.panic v) env H := h
theorem InBlock.normal {i : Nat} (h : K .normal env H) : InBlock i K .normal env H := h
theorem InBlock.ret {i : Nat} (h : K .ret env H) : InBlock i K .ret env H := h
theorem InBlock.panic {i : Nat} {v : SV} (h : K (.panic v) env H) : InBlock i K (.panic v) env H := h
theorem InBlock.same {i j : Nat} (e : Nat.beq j i = true) (h : K .normal env H) : InBlock i K (.exit j) env H := by
  have := Nat.eq_of_beq_eq_true e
  subst this
  show (if j = j then K .normal env H else _)
  rw [if_pos rfl]; exact h
theorem InBlock.other {i j : Nat} (e : Nat.beq j i = false) (h : K (.exit j) env H) : InBlock i K (.exit j) env H := by
  have : j ≠ i := fun e' => by subst e'; simp at e
  show (if j = i then _ else _)
  rw [if_neg this]; exact h

theorem TR.condT {c : Operand} {x y : Code} (hc : env.val c = some (.t (.v (.bool true)))) (h : TR P n x env H K) : TR P n (.cond c x y) env H K := TR.cond hc (fun _ => h) (fun e => by cases e)
theorem TR.condF {c : Operand} {x y : Code} (hc : env.val c = some (.t (.v (.bool false)))) (h : TR P n y env H K) : TR P n (.cond c x y) env H K := TR.cond hc (fun e => by cases e) (fun _ => h)

/-- A comparison: two ways. -/
theorem TO.cmp {op : BinOp} {t t' : TypeId} {x y : Operand} {a b : Value} {c : Bool} (hd : Nat.ble (d + 1) n = true) (hx : env.val x = some (.t (.v a))) (hy : env.val y = some (.t (.v b)))
    (hz : binEval op a b = some (.bool c)) (ht : c = true → TO q P n all rest ((d, .t (.v (.bool true))) :: env) H K) (hf : c = false → TO q P n all rest ((d, .t (.v (.bool false))) :: env) H K) :
    TO q P n all (⟨some d, .binOp op t x y t', ty, pos, aft, none⟩ :: rest) env H K := by
  cases c
  · exact TO.bin hd hx hy hz (hf rfl)
  · exact TO.bin hd hx hy hz (ht rfl)

/-- A call that answers a Bool: two ways. -/
theorem TO.callBb {cargs : List SV} {b : Bool} {f : Operand} {fid : FuncId} {caps : List SV} {args : Array Operand} {ts : Array TypeId} {vs : List SV} (hs : Pure P fid cargs (.t (.v (.bool b)))) (hd : Nat.ble (d + 1) n = true)
    (hf : env.val f = some (.fn fid caps)) (ha : env.vals args.toList = some vs) (hl : LesB H (vs ++ caps) cargs)
    (kt : b = true → TO q P n all rest ((d, .t (.v (.bool true))) :: env) H K) (kf : b = false → TO q P n all rest ((d, .t (.v (.bool false))) :: env) H K) :
    TO q P n all (⟨some d, .call { callee := .value f, args := args, argTypes := ts }, ty, pos, aft, none⟩ :: rest) env H K := by
  cases b
  · exact TO.callB hs hd hf ha hl (.v _) (kf rfl)
  · exact TO.callB hs hd hf ha hl (.v _) (kt rfl)

theorem Le.of_eq {a b : SV} (h : a = b) : Le a b := h ▸ Le.refl a

theorem RetK.pure {rs : List ResultVar} {vs : List SV} {v : SV} (hr : resAll tab env H rs = some vs) (hl : Le (pack vs) v) (hu : v.under 0 = true) : RetK tab rs 0 (fun r H' => r = .ret v ∧ H' = []) .ret env H :=
  ⟨vs, v, 0, hr, hl, Nat.le_refl _, Nat.zero_le _, hu, rfl, rfl, rfl⟩
theorem RetK.pureN {rs : List ResultVar} {vs : List SV} {v : SV} (hr : resAll tab env H rs = some vs) (hl : Le (pack vs) v) (hu : v.under 0 = true) : RetK tab rs 0 (fun r H' => r = .ret v ∧ H' = []) .normal env H :=
  ⟨vs, v, 0, hr, hl, Nat.le_refl _, Nat.zero_le _, hu, rfl, rfl, rfl⟩

theorem str_eq (a b : Str) : ((⟨a.toArray⟩ : ByteArray).data.toList == (⟨b.toArray⟩ : ByteArray).data.toList) = (a == b) := rfl

/-- Two strings, compared. -/
theorem TO.eqs {t t' : TypeId} {x y : Operand} {a b : Str} (hd : Nat.ble (d + 1) n = true) (hx : env.val x = some (.t (.v (str a)))) (hy : env.val y = some (.t (.v (str b))))
    (ht : (a == b) = true → TO q P n all rest ((d, .t (.v (.bool true))) :: env) H K) (hf : (a == b) = false → TO q P n all rest ((d, .t (.v (.bool false))) :: env) H K) :
    TO q P n all (⟨some d, .binOp .eql t x y t', ty, pos, aft, none⟩ :: rest) env H K :=
  TO.cmp (c := (a == b)) hd hx hy rfl ht hf

theorem TO.nes {t t' : TypeId} {x y : Operand} {a b : Str} (hd : Nat.ble (d + 1) n = true) (hx : env.val x = some (.t (.v (str a)))) (hy : env.val y = some (.t (.v (str b))))
    (ht : (a == b) = true → TO q P n all rest ((d, .t (.v (.bool false))) :: env) H K) (hf : (a == b) = false → TO q P n all rest ((d, .t (.v (.bool true))) :: env) H K) :
    TO q P n all (⟨some d, .binOp .neq t x y t', ty, pos, aft, none⟩ :: rest) env H K :=
  TO.cmp (c := !(a == b)) hd hx hy rfl (fun h => hf (by simpa using h)) (fun h => ht (by simpa using h))

/-- A byte of a string, at a natural number. -/
theorem TO.index_nat (hT : TabOk P tab) {t : TypeId} {i : TyI} {x y : Operand} {l : Str} {ik : IntKind} {j : Nat} {c : UInt8} (hd : Nat.ble (d + 1) n = true) (ht : tab.get t = some i) (hk : i.k = .str) (hx : env.val x = some (.t (.v (str l))))
    (hy : env.val y = some (.t (.v (.int ik (j : Int))))) (hc : l[j]? = some c) (k : TO q P n all rest ((d, .t (.v (.int .u8 c.toNat))) :: env) H K) : TO q P n all (⟨some d, .index t x y, ty, pos, aft, none⟩ :: rest) env H K :=
  TO.index_str hT hd ht hk hx hy (by omega) (by simpa using hc) k

/-- An element of a slice, at a natural number. -/
theorem TO.elem_nat (hT : TabOk P tab) {t e : TypeId} {i ie : TyI} {x y : Operand} {v : SV} {sz : Nat} {es : List T} {ik : IntKind} {j : Nat} {el : T} {cs : List T} (hd : Nat.ble (d + 1) n = true) (ht : tab.get t = some i) (hk : i.k = .slice e)
    (he : tab.get e = some ie) (hs : ie.size = sz) (hx : env.val x = some v) (hv : v.elems sz = some es) (hy : env.val y = some (.t (.v (.int ik (j : Int))))) (hj : es[j]? = some el) (hcs : el.cells = cs)
    (k : TO q P n all rest ((d, .cp cs 0) :: env) H K) : TO q P n all (⟨some d, .indexAddr t x y, ty, pos, aft, none⟩ :: rest) env H K :=
  TO.indexAddr hT hd ht hk he hs hx hv hy (by omega) (by simpa using hj) (by rw [hcs]; exact k)

/-- A part of a string, its bounds natural numbers. -/
theorem TO.slice2 (hT : TabOk P tab) {t : TypeId} {i : TyI} {x y z : Operand} {l : Str} {a b : Nat} {ik ik' : IntKind} (hd : Nat.ble (d + 1) n = true) (ht : tab.get t = some i) (hk : i.k = .str)
    (hx : env.val x = some (.t (.v (str l)))) (hy : env.val y = some (.t (.v (.int ik (a : Int))))) (hz : env.val z = some (.t (.v (.int ik' (b : Int))))) (h1 : a ≤ b) (h2 : b ≤ l.length)
    (k : TO q P n all rest ((d, .t (.v (str ((l.take b).drop a)))) :: env) H K) : TO q P n all (⟨some d, .slice t x (some y) (some z) none, ty, pos, aft, none⟩ :: rest) env H K :=
  TO.slice_str hT hd ht hk hx (.inr ⟨y, ik, rfl, hy⟩) (.inr ⟨z, ik', rfl, hz⟩) h1 h2 k

theorem TO.slice_lo (hT : TabOk P tab) {t : TypeId} {i : TyI} {x y : Operand} {l : Str} {a : Nat} {ik : IntKind} (hd : Nat.ble (d + 1) n = true) (ht : tab.get t = some i) (hk : i.k = .str)
    (hx : env.val x = some (.t (.v (str l)))) (hy : env.val y = some (.t (.v (.int ik (a : Int))))) (h1 : a ≤ l.length)
    (k : TO q P n all rest ((d, .t (.v (str (l.drop a)))) :: env) H K) : TO q P n all (⟨some d, .slice t x (some y) none none, ty, pos, aft, none⟩ :: rest) env H K :=
  TO.slice_str hT hd ht hk hx (.inr ⟨y, ik, rfl, hy⟩) (.inl ⟨rfl, rfl⟩) h1 (Nat.le_refl _) (by rw [List.take_length]; exact k)

theorem TO.slice_hi (hT : TabOk P tab) {t : TypeId} {i : TyI} {x z : Operand} {l : Str} {b : Nat} {ik' : IntKind} (hd : Nat.ble (d + 1) n = true) (ht : tab.get t = some i) (hk : i.k = .str)
    (hx : env.val x = some (.t (.v (str l)))) (hz : env.val z = some (.t (.v (.int ik' (b : Int))))) (h2 : b ≤ l.length)
    (k : TO q P n all rest ((d, .t (.v (str (l.take b)))) :: env) H K) : TO q P n all (⟨some d, .slice t x none (some z) none, ty, pos, aft, none⟩ :: rest) env H K :=
  TO.slice_str hT hd ht hk hx (.inl ⟨rfl, rfl⟩) (.inr ⟨z, ik', rfl, hz⟩) (Nat.zero_le _) h2 (by simpa using k)

theorem Hands.one {G : Heap} {i : Nat} {b : Blk} (h : G[i]? = some (b.ren (names [i] G.length))) (hb : b.under 1 = true) : Hands G [i] [b] where
  nodup := by simp
  lt := fun x hx => by
    have : x = i := by simpa using hx
    subst this
    exact (List.getElem?_eq_some_iff.1 h).1
  len := rfl
  H := fun j k c h1 h2 => by
    cases j with
    | zero => simp at h1 h2; subst h1; subst h2; exact h
    | succ j => simp at h1
  under := fun j c h2 => by
    cases j with
    | zero => simp at h2; subst h2; exact hb
    | succ j => simp at h2

/-- A call that hands back one value and one heap. -/
theorem TO.call1 (l : List Nat) {Hc Hc1 H' : Heap} {cargs : List SV} {v v' : SV} {f : Operand} {fid : FuncId} {caps : List SV} {args : Array Operand} {ts : Array TypeId} {vs : List SV} (hs : Sound P fid cargs Hc fun r H' => r = .ret v ∧ H' = Hc1) (hd : Nat.ble (d + 1) n = true)
    (hf : env.val f = some (.fn fid caps)) (ha : env.vals args.toList = some vs) (hl : Les (vs ++ caps) (rens (names l H.length) cargs)) (hu : unders Hc.length cargs = true) (hh : Hands H l Hc)
    (hv : v.ren (names l H.length) = v') (hH : patch H l (Hc1.map (Blk.ren (names l H.length))) = H') (k : TO false P n all rest ((d, v') :: env) H' K) :
    TO false P n all (⟨some d, .call { callee := .value f, args := args, argTypes := ts }, ty, pos, aft, none⟩ :: rest) env H K :=
  TO.call l hs hd hf ha hl hu hh (fun u Hc' h => by
    obtain ⟨h1, rfl⟩ := h
    cases h1
    rw [hv, hH]; exact k) (fun u Hc' h => by cases h.1)

/-- All names in the slots lie below k. -/
def Env.under (k : Nat) (env : Env) : Bool := env.all fun x => x.2.under k

theorem Env.under_look {k : Nat} : ∀ {env : Env}, env.under k = true → ∀ i v, env.look i = some v → v.under k = true
  | [], _, i, v, h => by simp [Env.look] at h
  | (j, u) :: r, hs, i, v, h => by
    simp only [Env.under, List.all_cons, Bool.and_eq_true] at hs
    by_cases hi : j = i
    · subst hi
      rw [Env.look_cons_same] at h
      cases h
      exact hs.1
    · rw [Env.look_cons_other _ _ hi] at h
      exact Env.under_look (env := r) hs.2 i v h

/-- How a round of a loop ends: blocks that the round has made may be forgotten. -/
def LoopK {ι : Type} (I : ι → Prop) (μ : ι → Nat) (E : ι → Env) (G : ι → Heap) (x : ι) (K : TK) : TK
  | .normal, env, H => ∃ y, I y ∧ μ y < μ x ∧ env.sub (E y) ∧ (H = G y ∨ ∃ j, Nat.ble (G x).length j = true ∧ Nat.ble j H.length = true ∧ blksUnder j (H.take j) = true ∧ (E y).under j = true ∧ H.take j = G y)
  | e, env, H => K e env H

theorem TR.loop_ind {ι : Type} (I : ι → Prop) (μ : ι → Nat) (E : ι → Env) (G : ι → Heap) (x0 : ι) {c : Code} (hI : I x0) (h0 : env.sub (E x0)) (hH : H = G x0)
    (step : ∀ x, I x → TR P n c (E x) (G x) (LoopK I μ E G x K)) : TR P n (.loop c) env H K := by
  have key : ∀ m x, μ x = m → I x → TR P n (.loop c) (E x) (G x) K := by
    intro m
    induction m using Nat.strongRecOn with
    | _ m ih =>
      intro x hm hx
      refine TR.loop ?_
      intro m0 a h1 h2 h3 h4
      refine wp_mono (step x hx m0 a h1 h2 h3 h4) ?_
      rintro e a' w ⟨m', env', te, rfl, s, hm', he, hd, hx', hk⟩
      cases te with
      | normal =>
        obtain ⟨y, hy, hlt, hs, hc⟩ := hk
        have hl := ih (μ y) (by omega) y rfl hy
        rcases hc with hc | ⟨j, b1, b2, b3, b4, b5⟩
        · exact ⟨m', env', .normal, rfl, s, hm', he, hd, hx', by rw [hc]; exact TR.sub (E y) hs hl⟩
        · have hbl := Nat.le_of_ble_eq_true b1
          obtain ⟨s1, hm1, hr⟩ := cut_ok hm' s (Nat.le_of_ble_eq_true b2) (by rw [h2.len, h1]; exact hbl) b3
          refine ⟨m'.cut j, E y, .normal, rfl, s1, hm1, ⟨he.1, fun i v hv => ?_⟩, hd, by cases e <;> first | exact hx' | exact trivial, ?_⟩
          · obtain ⟨z, g1, g2⟩ := he.2 i v (Env.sub_look hs i v hv)
            exact ⟨z, g1, hr v z (Env.under_look b4 i v hv) g2⟩
          · show TR P n (.loop c) (E y) (m'.H.take j) K
            rw [b5]; exact hl
      | exit i => exact ⟨m', env', .exit i, rfl, s, hm', he, hd, hx', hk⟩
      | ret => exact ⟨m', env', .ret, rfl, s, hm', he, hd, hx', hk⟩
      | panic v =>
        cases e with
        | panic ch =>
          obtain ⟨z, q1, q2⟩ := hx'
          exact ⟨m', env', .panic v, rfl, s, hm', he, hd, ⟨z, q1, q2⟩, hk⟩
        | _ => exact absurd hx' (by simp [ExRel])
  subst hH
  exact TR.sub (E x0) h0 (key _ x0 rfl hI)

section loopk
variable {ι : Type} {I : ι → Prop} {μ : ι → Nat} {E : ι → Env} {G : ι → Heap} {x : ι}
theorem LoopK.next (y : ι) (hI : I y) (hm : μ y < μ x) (hs : env.sub (E y)) (hH : H = G y) : LoopK I μ E G x K .normal env H := ⟨y, hI, hm, hs, .inl hH⟩
theorem LoopK.cut (j : Nat) (y : ι) (hI : I y) (hm : μ y < μ x) (hs : env.sub (E y)) (h1 : Nat.ble (G x).length j = true) (h2 : Nat.ble j H.length = true) (hH : H.take j = G y) (h3 : blksUnder j (G y) = true) (h4 : (E y).under j = true) : LoopK I μ E G x K .normal env H := ⟨y, hI, hm, hs, .inr ⟨j, h1, h2, by rw [hH]; exact h3, h4, hH⟩⟩
theorem LoopK.exit {i : Nat} (h : K (.exit i) env H) : LoopK I μ E G x K (.exit i) env H := h
theorem LoopK.ret (h : K .ret env H) : LoopK I μ E G x K .ret env H := h
theorem LoopK.panic {v : SV} (h : K (.panic v) env H) : LoopK I μ E G x K (.panic v) env H := h
end loopk

/-- A slice literal, with the conditions as Bools. -/
theorem TO.buildSliceB (hT : TabOk P tab) {t e : TypeId} {i ie : TyI} {len sz : Nat} {parts : Array (Nat × Operand)} {ps : List (Nat × SV)} {es : List T} (hd : Nat.ble (d + 1) n = true) (ht : tab.get t = some i) (hk : i.k = .slice e) (he : tab.get e = some ie) (hs : ie.size = sz)
    (hp : env.parts parts.toList = some ps) (hes : elemsOf sz 0 ps = some es) (hlen : Nat.beq len es.length = true) (hsz : (es.all fun t => Nat.beq t.cells.length sz) = true) (hsm : Nat.ble (len * sz) 16777216 = true)
    (k : TO false P n all rest ((d, .t (.sl sz es)) :: env) H K) : TO false P n all (⟨some d, .buildSlice t len parts, ty, pos, aft, none⟩ :: rest) env H K :=
  TO.buildSlice hT hd ht hk he hs hp hes hlen (fun t h => Nat.eq_of_beq_eq_true (List.all_eq_true.1 hsz t h)) hsm k

/-- append, with the conditions as Bools; all that is bounded is bounded by a million. -/
theorem TO.appendB (hT : TabOk P tab) {t t' e : TypeId} {i i' ie : TyI} {sz id : Nat} {es ys : List T} {x y : Operand} {vy : SV} {H' : Heap} (hd : Nat.ble (d + 1) n = true) (ht : tab.get t = some i) (hk : i.k = .slice e) (ht' : tab.get t' = some i') (hk' : i'.k = .slice e)
    (he : tab.get e = some ie) (hs : ie.size = sz) (hpos : Nat.ble 1 sz = true) (hx : env.val x = some (.sl sz es id)) (hH : H[id]? = some (.tail es.length)) (hy : env.val y = some vy) (hvy : vy.elems sz = some ys)
    (hby : Nat.ble ie.bytes 4096 = true) (hb1 : es.length + ys.length ≤ 10000000000) (hH' : H.set id (.tail (es.length + ys.length)) = H')
    (k : TO false P n all rest ((d, .sl sz (es ++ ys) id) :: env) H' K) : TO false P n all (⟨some d, .call { callee := .builtin .append, args := #[x, y], argTypes := #[t, t'] }, ty, pos, aft, none⟩ :: rest) env H K := by
  have h1 := Nat.le_of_ble_eq_true hby
  have h2 : (es.length + ys.length) * ie.bytes ≤ 10000000000 * 4096 := Nat.mul_le_mul hb1 h1
  exact TO.append hT hd ht hk ht' hk' he hs (Nat.le_of_ble_eq_true hpos) hx hH hy hvy (by omega) (by omega) (by omega) hH' k

theorem RetK.keep (k : Nat) {rs : List ResultVar} {N : Nat} {R : Res → Heap → Prop} {vs : List SV} {v : SV} {H' : Heap} (hr : resAll tab env H rs = some vs) (hl : Le (pack vs) v) (hN : Nat.ble N k = true) (hk : Nat.ble k H.length = true) (hu : v.under k = true) (hH : H.take k = H')
    (hb : blksUnder k H' = true) (hR : R (.ret v) H') : RetK tab rs N R .ret env H :=
  ⟨vs, v, k, hr, hl, Nat.le_of_ble_eq_true hN, Nat.le_of_ble_eq_true hk, hu, by rw [hH]; exact hb, by rw [hH]; exact hR⟩
theorem RetK.keepN (k : Nat) {rs : List ResultVar} {N : Nat} {R : Res → Heap → Prop} {vs : List SV} {v : SV} {H' : Heap} (hr : resAll tab env H rs = some vs) (hl : Le (pack vs) v) (hN : Nat.ble N k = true) (hk : Nat.ble k H.length = true) (hu : v.under k = true) (hH : H.take k = H')
    (hb : blksUnder k H' = true) (hR : R (.ret v) H') : RetK tab rs N R .normal env H :=
  ⟨vs, v, k, hr, hl, Nat.le_of_ble_eq_true hN, Nat.le_of_ble_eq_true hk, hu, by rw [hH]; exact hb, by rw [hH]; exact hR⟩

end rules
end Go.TL
