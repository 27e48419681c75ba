import Derived.Test.YtonjiabmcbdhdaaGreatPk17
import Derived.Test.YtonjiabmcbdhdaaGreatPk24
set_option linter.unusedVariables false
set_option linter.unusedSimpArgs false
namespace Go.TL
open Go
def NKP (K : TK) (g : Prop) (env1 : Env) (H1 : Heap) : TK
  | .normal, env, H => (env = env1 ∧ H = H1) ∧ g
  | .panic v, env, H => K (.panic v) env H
  | _, _, _ => False
section rules
variable {P : Program} {all : Array Oper}
theorem step_opP {K : TK} {g : Prop} {n i : Nat} {o : Oper} {env env1 : Env} {H H1 : Heap} {φ : Fm} {m : M} {a : Act} {X : Act → World → Prop} {Q : Exit → Act → World → Prop} (ho : all[i]? = some o) (ht : TO false P n all [o] env H (NKP K g env1 H1)) (h1 : m.H = H) (h2 : HRel m) (h3 : ERel m n env a.tmps) (h4 : DefOk φ m.w a.defers)
    (next : g → ∀ m' a', m'.H = H1 → Step m m' → HRel m' → ERel m' n env1 a'.tmps → DefOk φ m'.w a'.defers → X a' m'.w)
    (hpan : ∀ m' env' a' v ch, Step m m' → HRel m' → ERel m' n env' a'.tmps → DefOk φ m'.w a'.defers → ExRel m' (.panic v) (.panic ch) → K (.panic v) env' m'.H → Q (.panic ch) a' m'.w) : wpOpIn (Fr φ.r) 0 P all Q i X a m.w := by
  have h := ht φ m a h1 h2 h3 h4
  simp only at h
  have h' : wpListIn (Fr φ.r) 0 P all (NextQ X Q) [o] a m.w := by
    refine wpListIn_mono (fun e a' w' hp => ?_) (fun _ _ => Post.not_outgrown) [o] a m.w h
    obtain ⟨m', env', te, rfl, s, hm', he', hd', hx, hk⟩ := hp
    cases te with
    | normal =>
      obtain ⟨⟨rfl, hH⟩, hg⟩ := hk
      cases e <;> simp [ExRel] at hx
      exact next hg m' a' hH s hm' he' hd'
    | exit j => exact hk.elim
    | ret => exact hk.elim
    | panic v =>
      cases e with
      | panic ch => exact hpan m' env' a' v ch s hm' he' hd' hx hk
      | _ => simp [ExRel] at hx
  unfold wpListIn at h'
  unfold wpOpIn
  simp only [ho]
  split
  · rename_i hw
    rw [if_pos hw] at h'
    exact wpIn_next h'
  · rename_i hw
    rw [if_neg hw] at h'
    exact ⟨h'.1, h'.2⟩
theorem any_mixP {G : Nat → Prop} {n : Nat} {env0 : Env} {K : TK} {vs : List SV} {fl : List Bool} {hs : List Heap} {HF : Heap} {φ : Fm} {m0 : M} (hB : mixB all fl = true) (hvl : vs.length = all.size) (hfl : fl.length = all.size)
    (hq : ∀ (i : Nat) o v, all[i]? = some o → vs[i]? = some v → fl.getD i false = false → ∀ (c : Nat) H, hs[c]? = some H → ∀ env, TO false P n all [o] (pickE (fullE all vs env0) (slotsOf all o) ++ env) H (NKP K (G i) (putE o.dst v (pickE (fullE all vs env0) (slotsOf all o) ++ env)) H))
    (he : ∀ (i : Nat) o v, all[i]? = some o → vs[i]? = some v → fl.getD i false = true → ∃ H1 H2, hs[((fl.take i).filter id).length]? = some H1 ∧ hs[((fl.take i).filter id).length + 1]? = some H2 ∧ ∀ env, TO false P n all [o] (pickE (fullE all vs env0) (slotsOf all o) ++ env) H1 (NKP K (G i) (putE o.dst v (pickE (fullE all vs env0) (slotsOf all o) ++ env)) H2))
    (hF : hs[(fl.filter id).length]? = some HF) (hK : (∀ j, j < all.size → G j) → K .normal (fullE all vs env0) HF) :
    ∀ (fuel : Nat) (L : Array Bool) (m : M) (a : Act), L.size = all.size → DC all L → unl all.size L ≤ fuel →
      (∃ c, (∀ i : Nat, fl.getD i false = true → (((fl.take i).filter id).length < c ↔ L[i]? = some true)) ∧ c ≤ (fl.filter id).length ∧ hs[c]? = some m.H ∧ ∀ j, L[j]? = some true → G j) →
      Step m0 m → HRel m → ERel m n (envA all vs (fun i => L.getD i false) (List.range all.size) ++ env0) a.tmps → DefOk φ m.w a.defers →
      wpAnyIn (Fr φ.r) 0 P .any all (Post φ m0 n K) fuel L a m.w := by
  simp only [mixB, Bool.and_eq_true] at hB
  obtain ⟨hd, hall⟩ := hB
  have hall' : ∀ i, i < all.size → _ := fun i hi => List.all_eq_true.1 hall i (by simpa using hi)
  have hdl : ∀ i d, dstOf all i = some d → i < all.size := fun i d h => by
    unfold dstOf at h
    cases ho : all[i]? with
    | none => rw [ho] at h; cases h
    | some o => exact (Array.getElem?_eq_some_iff.1 ho).1
  have hu : ∀ i j d, dstOf all i = some d → dstOf all j = some d → i = j := by
    intro i j d h1 h2
    have := hall' i (hdl i d h1)
    simp only [Bool.and_eq_true] at this
    have := List.all_eq_true.1 this.1.1 j (by simpa using hdl j d h2)
    rw [h1, h2] at this
    simpa using this
  have hcv : ∀ (i : Nat) o s j, all[i]? = some o → s ∈ slotsOf all o → dstOf all j = some s → j ∈ cov all 8 (afterOf all i) := by
    intro i o s j ho hs' hj
    have := hall' i (Array.getElem?_eq_some_iff.1 ho).1
    simp only [Bool.and_eq_true, ho] at this
    have := List.all_eq_true.1 this.1.2 s hs'
    have := List.all_eq_true.1 this j (by simpa using hdl j s hj)
    rw [hj] at this
    simpa using this
  have hch : ∀ i j, i < all.size → fl.getD i false = true → j < i → fl.getD j false = true → j ∈ cov all 8 (afterOf all i) := by
    intro i j hi h1 hj h2
    have := hall' i hi
    simp only [Bool.and_eq_true, h1, Bool.not_true, Bool.false_or] at this
    have := List.all_eq_true.1 this.2 j (by simpa using hj)
    rw [h2] at this
    simpa using this
  have hfull : ∀ L : Array Bool, L.size = all.size → (∀ i, i < all.size → L[i]? = some true) → envA all vs (fun i => L.getD i false) (List.range all.size) ++ env0 = fullE all vs env0 := by
    intro L hL hA
    unfold fullE
    congr 1
    have : ∀ l : List Nat, (∀ i ∈ l, i < all.size) → envA all vs (fun i => L.getD i false) l = envA all vs (fun _ => true) l := by
      intro l
      induction l with
      | nil => intro _; rfl
      | cons i l ih =>
        intro hl
        have h1 : L.getD i false = true := gT.2 (hA i (hl i List.mem_cons_self))
        simp only [envA, h1, ih fun j hj => hl j (List.mem_cons_of_mem _ hj)]
    exact this _ fun i hi => by simpa using hi
  have hdone : ∀ (L : Array Bool) (m : M) (a : Act), L.size = all.size → (∀ i, i < all.size → L[i]? = some true) → (∃ c, (∀ i : Nat, fl.getD i false = true → (((fl.take i).filter id).length < c ↔ L[i]? = some true)) ∧ c ≤ (fl.filter id).length ∧ hs[c]? = some m.H ∧ ∀ j, L[j]? = some true → G j) →
      Step m0 m → HRel m → ERel m n (envA all vs (fun i => L.getD i false) (List.range all.size) ++ env0) a.tmps → DefOk φ m.w a.defers → Post φ m0 n K .normal a m.w := by
    rintro L m a hL hA ⟨c, hc1, hc2, hc3, hG⟩ s h2 h3 h4
    rw [hfull L hL hA] at h3
    have hc : c = (fl.filter id).length := by
      refine Nat.le_antisymm hc2 (Nat.le_of_not_lt fun hlt => ?_)
      have : ∀ (fl' : List Bool) (c : Nat), c < (fl'.filter id).length → ∃ i : Nat, fl'.getD i false = true ∧ ((fl'.take i).filter id).length = c := by
        intro fl'
        induction fl' with
        | nil => intro c h; simp at h
        | cons b fl' ih =>
          intro c h
          cases b with
          | false =>
            obtain ⟨i, g1, g2⟩ := ih c (by simpa using h)
            exact ⟨i + 1, by simpa using g1, by simpa using g2⟩
          | true =>
            cases c with
            | zero => exact ⟨0, rfl, rfl⟩
            | succ c =>
              obtain ⟨i, g1, g2⟩ := ih c (by simpa using h)
              exact ⟨i + 1, by simpa using g1, by simpa using g2⟩
      obtain ⟨i, g1, g2⟩ := this fl c hlt
      have hil : i < all.size := by
        rw [← hfl]
        refine Nat.lt_of_not_le fun hle => ?_
        rw [List.getD_eq_getElem?_getD, List.getElem?_eq_none hle] at g1
        cases g1
      have := (hc1 i g1).2 (hA i hil)
      omega
    subst hc
    rw [hF] at hc3
    cases hc3
    exact ⟨m, fullE all vs env0, .normal, rfl, s, h2, h3, h4, trivial, hK fun j hj => hG j (hA j hj)⟩
  intro fuel
  induction fuel with
  | zero =>
    intro L m a hL hdc hun hst s h2 h3 h4
    have hA : ∀ i, i < all.size → L[i]? = some true := by
      intro i hi
      have : L[i]? = some (L[i]'(by omega)) := Array.getElem?_eq_getElem (by omega)
      rw [this]
      cases hb : L[i]'(by omega)
      · exfalso
        have hmem : i ∈ (List.range all.size).filter fun i => L[i]? == some false := by
          rw [List.mem_filter]
          exact ⟨by simpa using hi, by rw [this, hb]; rfl⟩
        have := List.length_pos_of_mem hmem
        unfold unl at hun
        omega
      · rfl
    refine ⟨?_, hdone L m a hL hA hst s h2 h3 h4⟩
    refine List.eq_nil_iff_forall_not_mem.2 fun i hi => ?_
    have h := ((ready_iff hL).1 hi).1
    rw [hA i (by rw [← hL]; exact (Array.getElem?_eq_some_iff.1 h).1)] at h
    cases h
  | succ fuel ih =>
    intro L m a hL hdc hun hst s h2 h3 h4
    refine ⟨fun hr => ?_, fun i hi => ?_⟩
    · refine hdone L m a hL (fun i hi => ?_) hst s h2 h3 h4
      have : L[i]? = some (L[i]'(by omega)) := Array.getElem?_eq_getElem (by omega)
      rw [this]
      cases hb : L[i]'(by omega)
      · exfalso
        obtain ⟨j, _, hj, _⟩ := first_ready hL hd (n := i) (by rw [this, hb])
        rw [hr] at hj; cases hj
      · rfl
    · obtain ⟨g1, g2⟩ := (ready_iff hL).1 hi
      have hil : i < all.size := by rw [← hL]; exact (Array.getElem?_eq_some_iff.1 g1).1
      have ho : all[i]? = some all[i] := Array.getElem?_eq_getElem hil
      have hv : vs[i]? = some (vs[i]'(by omega)) := List.getElem?_eq_getElem (by omega)
      generalize all[i] = o at ho
      generalize vs[i]'(by omega) = v at hv
      obtain ⟨c, hc1, hc2, hc3, hG⟩ := hst
      have hcl := cov_listed hdc 8 (afterOf all i) g2
      have hlook : ∀ t u, (pickE (fullE all vs env0) (slotsOf all o) ++ (envA all vs (fun i => L.getD i false) (List.range all.size) ++ env0)).look t = some u →
          (envA all vs (fun i => L.getD i false) (List.range all.size) ++ env0).look t = some u := by
        intro t u htu
        rw [look_append] at htu
        cases hpk : (pickE (fullE all vs env0) (slotsOf all o)).look t with
        | none => rw [hpk] at htu; exact htu
        | some u' =>
          rw [hpk] at htu
          cases htu
          obtain ⟨k1, k2⟩ := pickE_look _ _ _ _ hpk
          unfold fullE at k2
          rw [look_append] at k2 ⊢
          cases hq' : (envA all vs (fun _ => true) (List.range all.size)).look t with
          | some u'' =>
            rw [hq'] at k2
            cases k2
            obtain ⟨j, j1, _, j2, j3⟩ := envA_inv _ hq'
            have hj := hcl j (hcv i o t j ho k1 j2)
            rw [envA_some hu (p := fun i => L.getD i false) (gT.2 hj) j2 j3 _ j1]
          | none =>
            rw [hq'] at k2
            have : (envA all vs (fun i => L.getD i false) (List.range all.size)).look t = none := by
              refine envA_none _ fun j hj _ hjd => ?_
              have hjl : j < all.size := by simpa using hj
              have := envA_some (vs := vs) hu (p := fun _ => true) rfl hjd (List.getElem?_eq_getElem (by omega)) (List.range all.size) hj
              rw [this] at hq'
              cases hq'
            rw [this]
            exact k2
      have h3' : ERel m n (pickE (fullE all vs env0) (slotsOf all o) ++ (envA all vs (fun i => L.getD i false) (List.range all.size) ++ env0)) a.tmps := h3.sub hlook
      have hset : ∀ j : Nat, (L.setIfInBounds i true)[j]? = if i = j then some true else L[j]? := by
        intro j
        rw [Array.getElem?_setIfInBounds]
        split
        · rw [if_pos (by omega)]
        · rfl
      have hnext : ∀ H1 : Heap, (∃ c', (∀ x : Nat, fl.getD x false = true → (((fl.take x).filter id).length < c' ↔ (L.setIfInBounds i true)[x]? = some true)) ∧ c' ≤ (fl.filter id).length ∧ hs[c']? = some H1) →
          G i → ∀ m' a', m'.H = H1 → Step m m' → HRel m' → ERel m' n (putE o.dst v (pickE (fullE all vs env0) (slotsOf all o) ++ (envA all vs (fun i => L.getD i false) (List.range all.size) ++ env0))) a'.tmps → DefOk φ m'.w a'.defers →
          wpAnyIn (Fr φ.r) 0 P .any all (Post φ m0 n K) fuel (L.setIfInBounds i true) a' m'.w := by
        rintro H1 ⟨c', q1, q2, q3⟩ hgi m' a' hH s' h2' h3'' h4'
        refine ih (L.setIfInBounds i true) m' a' (by simpa using hL) (dc_set hL hdc hi) ?_ ⟨c', q1, q2, by rw [hH]; exact q3, fun j hj => by
          rw [hset] at hj
          split at hj
          · rename_i e; subst e; exact hgi
          · exact hG j hj⟩ (s.trans s') h2' (h3''.sub fun t u htu => ?_) h4'
        · have := filter_lt (p := fun x => L[x]? == some false) (q := fun x => (L.setIfInBounds i true)[x]? == some false) (fun x hx => by
            rw [hset] at hx
            split at hx
            · cases hx
            · exact hx) (List.range all.size) i (by simpa using hil) (by rw [g1]; rfl) (by rw [hset, if_pos rfl]; rfl)
          unfold unl at hun ⊢
          omega
        · rw [look_append] at htu
          cases hq' : (envA all vs (fun x => (L.setIfInBounds i true).getD x false) (List.range all.size)).look t with
          | some u' =>
            rw [hq'] at htu
            cases htu
            obtain ⟨j, j1, j0, j2, j3⟩ := envA_inv _ hq'
            have j0' := gT.1 j0
            rw [hset] at j0'
            by_cases hij : i = j
            · subst hij
              rw [hv] at j3
              cases j3
              unfold dstOf at j2
              rw [ho] at j2
              have : o.dst = some t := j2
              rw [this, putE, Env.look_cons_same]
            · rw [if_neg hij] at j0'
              have hne : dstOf all i ≠ some t := fun e => hij (hu i j t e j2)
              have e2 : (envA all vs (fun i => L.getD i false) (List.range all.size) ++ env0).look t = some u := by
                rw [look_append, envA_some hu (p := fun i => L.getD i false) (gT.2 j0') j2 j3 _ j1]
              have e3 : (pickE (fullE all vs env0) (slotsOf all o) ++ (envA all vs (fun i => L.getD i false) (List.range all.size) ++ env0)).look t = some u := by
                rw [look_append]
                cases hpk : (pickE (fullE all vs env0) (slotsOf all o)).look t with
                | none => exact e2
                | some u' =>
                  have := hlook t u' (by rw [look_append, hpk])
                  rw [this] at e2
                  exact e2
              cases hdd : o.dst with
              | none => exact e3
              | some d =>
                have : d ≠ t := fun e => hne (by unfold dstOf; rw [ho]; simp [hdd, e])
                rw [putE, Env.look_cons_other _ _ this]
                exact e3
          | none =>
            rw [hq'] at htu
            have hno : ∀ j, j < all.size → L[j]? = some true → dstOf all j ≠ some t := by
              intro j hj hjt hjd
              have := envA_some (vs := vs) hu (p := fun x => (L.setIfInBounds i true).getD x false) (i := j) (gT.2 (by rw [hset]; split; rfl; exact hjt)) hjd (List.getElem?_eq_getElem (by omega)) (List.range all.size) (by simpa using hj)
              rw [this] at hq'
              cases hq'
            have hni : dstOf all i ≠ some t := by
              intro hjd
              have := envA_some (vs := vs) hu (p := fun x => (L.setIfInBounds i true).getD x false) (i := i) (gT.2 (by rw [hset, if_pos rfl])) hjd (List.getElem?_eq_getElem (by omega)) (List.range all.size) (by simpa using hil)
              rw [this] at hq'
              cases hq'
            have e2 : (envA all vs (fun i => L.getD i false) (List.range all.size) ++ env0).look t = some u := by
              rw [look_append, envA_none (List.range all.size) fun j hj hjp => hno j (by simpa using hj) (gT.1 hjp)]
              exact htu
            have e3 : (pickE (fullE all vs env0) (slotsOf all o) ++ (envA all vs (fun i => L.getD i false) (List.range all.size) ++ env0)).look t = some u := by
              rw [look_append]
              cases hpk : (pickE (fullE all vs env0) (slotsOf all o)).look t with
              | none => exact e2
              | some u' =>
                have := hlook t u' (by rw [look_append, hpk])
                rw [this] at e2
                exact e2
            cases hdd : o.dst with
            | none => exact e3
            | some d =>
              have : d ≠ t := fun e => hni (by unfold dstOf; rw [ho]; simp [hdd, e])
              rw [putE, Env.look_cons_other _ _ this]
              exact e3
      cases hb : fl.getD i false with
      | false =>
        refine step_opP (K := K) (hpan := fun m' env' a' v ch s' hm' he' hd' hx hk => ⟨m', env', .panic v, rfl, s.trans s', hm', he', hd', hx, hk⟩) ho (hq i o v ho hv hb c m.H hc3 _) rfl h2 h3' h4 (hnext m.H ⟨c, fun x hx => ?_, hc2, hc3⟩)
        rw [hc1 x hx, hset]
        have : i ≠ x := fun e => by rw [e, hx] at hb; cases hb
        rw [if_neg this]
      | true =>
        obtain ⟨H1, H2, k1, k2, k3⟩ := he i o v ho hv hb
        have hci : ((fl.take i).filter id).length = c := by
          have h5 := hc1 i hb
          have hge : c ≤ ((fl.take i).filter id).length := Nat.le_of_not_lt fun hlt => by
            rw [h5.1 hlt] at g1; cases g1
          refine Nat.le_antisymm (Nat.le_of_not_lt fun hlt => ?_) hge
          have : ∀ (fl' : List Bool) (c : Nat), c < (fl'.filter id).length → ∃ j : Nat, j < fl'.length ∧ fl'.getD j false = true ∧ ((fl'.take j).filter id).length = c := by
            intro fl'
            induction fl' with
            | nil => intro c h; simp at h
            | cons b fl' ih =>
              intro c h
              cases b with
              | false =>
                obtain ⟨j, g0, g1, g2⟩ := ih c (by simpa using h)
                exact ⟨j + 1, by simpa using g0, by simpa using g1, by simpa using g2⟩
              | true =>
                cases c with
                | zero => exact ⟨0, by simp, rfl, rfl⟩
                | succ c =>
                  obtain ⟨j, g0, g1, g2⟩ := ih c (by simpa using h)
                  exact ⟨j + 1, by simpa using g0, by simpa using g1, by simpa using g2⟩
          obtain ⟨j, g0, g3, g4⟩ := this (fl.take i) c hlt
          have hji : j < i := by simp at g0; omega
          rw [List.getD_eq_getElem?_getD, List.getElem?_take, if_pos hji, ← List.getD_eq_getElem?_getD] at g3
          rw [List.take_take, Nat.min_eq_left (by omega)] at g4
          have h6 := hcl j (hch i j hil hb hji g3)
          have := (hc1 j g3).2 h6
          omega
        rw [hci] at k1 k2
        rw [hc3] at k1
        cases k1
        refine step_opP (K := K) (hpan := fun m' env' a' v ch s' hm' he' hd' hx hk => ⟨m', env', .panic v, rfl, s.trans s', hm', he', hd', hx, hk⟩) ho (k3 _) rfl h2 h3' h4 (hnext H2 ⟨c + 1, fun x hx => ?_, ?_, k2⟩)
        · rw [hset]
          by_cases hix : i = x
          · subst hix; rw [if_pos rfl, hci]; simp
          · rw [if_neg hix, ← hc1 x hx]
            have hmono : ∀ (fl' : List Bool) (x y : Nat), x < y → fl'.getD x false = true → ((fl'.take x).filter id).length < ((fl'.take y).filter id).length := by
              intro fl'
              induction fl' with
              | nil => intro x y _ h; cases h
              | cons b fl' ih =>
                intro x y hxy h
                obtain ⟨y', rfl⟩ : ∃ y', y = y' + 1 := ⟨y - 1, by omega⟩
                cases x with
                | zero => simp at h; subst h; simp
                | succ x =>
                  have := ih x y' (by omega) (by simpa using h)
                  cases b <;> simp <;> exact this
            have : ((fl.take x).filter id).length ≠ c := by
              rcases Nat.lt_or_gt_of_ne hix with h | h
              · have := hmono fl i x h hb; omega
              · have := hmono fl x i h hx; omega
            omega
        · have : c < (fl.filter id).length := by
            have hm : ∀ (fl' : List Bool) (x : Nat), fl'.getD x false = true → ((fl'.take x).filter id).length < (fl'.filter id).length := by
              intro fl'
              induction fl' with
              | nil => intro x h; cases h
              | cons b fl' ih =>
                intro x h
                cases x with
                | zero => simp at h; subst h; simp
                | succ x =>
                  have := ih x (by simpa using h)
                  cases b <;> simp <;> exact this
            have := hm fl i hb
            omega
          omega
def lastG (g : Prop) : List Oper → Prop
  | [] => g
  | _ :: _ => True
def PremS (P : Program) (n : Nat) (K : TK) (g : Prop) (all : Array Oper) (full : Env) (H0 : Heap) : List Oper → List (SV × Bool) → Prop
  | [], [] => True
  | o :: l, (v, _) :: t => (∀ env, TO false P n all [o] (pickE full (slotsOf all o) ++ env) H0 (NKP K (lastG g l) (putE o.dst v (pickE full (slotsOf all o) ++ env)) H0)) ∧ PremS P n K g all full H0 l t
  | _, _ => False
theorem PremS.get {n : Nat} {K : TK} {g : Prop} {full : Env} {H0 : Heap} : ∀ {l : List Oper} {t : List (SV × Bool)}, PremS P n K g all full H0 l t → l.length = t.length ∧ ∀ (i : Nat) o v b, l[i]? = some o → t[i]? = some (v, b) →
    ∀ env, TO false P n all [o] (pickE full (slotsOf all o) ++ env) H0 (NKP K (lastG g (l.drop (i + 1))) (putE o.dst v (pickE full (slotsOf all o) ++ env)) H0)
  | [], [], _ => ⟨rfl, fun i o v b h => by simp at h⟩
  | [], _ :: _, h => h.elim
  | _ :: _, [], h => h.elim
  | o :: l, (v, b) :: t, h => by
    obtain ⟨h1, h2⟩ := h
    obtain ⟨g1, g2⟩ := PremS.get h2
    refine ⟨by simp [g1], fun i o' v' b' ho hv => ?_⟩
    cases i with
    | zero => simp at ho hv; obtain ⟨rfl, rfl⟩ := hv; subst ho; exact h1
    | succ i => exact g2 i o' v' b' (by simpa using ho) (by simpa using hv)
theorem TR.regionS {g : Prop} {n : Nat} {env0 envF : Env} {H0 : Heap} {K : TK} {id' : Nat} {l : List Oper} (t : List (SV × Bool)) (hm : P.follows .mixedOrders = true) (hB : mixB l.toArray (t.map (·.2)) = true)
    (hp : PremS P n K g l.toArray (fullE l.toArray (t.map (·.1)) env0) H0 l t) (hE : forceL (fullE l.toArray (t.map (·.1)) env0) = some envF) (hne : 0 < l.length) (hK : g → K .normal envF H0) :
    TR P n (.region id' l.toArray true) env0 H0 K := by
  obtain ⟨g1, g2⟩ := hp.get
  intro φ m a h1 h2 h3 h4
  let hs := List.replicate (((t.map (·.2)).filter id).length + 1) H0
  have hsg : ∀ (c : Nat) H, hs[c]? = some H → H = H0 := by
    intro c H h
    rw [List.getElem?_replicate] at h
    split at h
    · cases h; rfl
    · cases h
  have hsi : ∀ c : Nat, c ≤ ((t.map (·.2)).filter id).length → hs[c]? = some H0 := by
    intro c hc
    rw [List.getElem?_replicate, if_pos (by omega)]
  have s0 : Step m ⟨m.A, m.β, m.H, { m.w with drawn := m.w.drawn + 1 }⟩ ∧ HRel ⟨m.A, m.β, m.H, { m.w with drawn := m.w.drawn + 1 }⟩ := keep_ok h2 ⟨rfl, rfl, rfl, Nat.le_refl _, fun _ _ => rfl⟩
  refine wpr_of_in (wpIn_region_any hm ?_)
  refine any_mixP (G := fun i => lastG g (l.drop (i + 1))) (vs := t.map (·.1)) (fl := t.map (·.2)) (hs := hs) (HF := H0) (m0 := m) hB (by simp [g1]) (by simp [g1]) ?_ ?_ (hsi _ (Nat.le_refl _)) (fun hg => by rw [forceL_eq hE] at hK; exact hK (by have := hg (l.length - 1) (by simp; omega); rw [List.drop_of_length_le (by omega)] at this; exact this)) l.toArray.size (Array.replicate l.toArray.size false)
    ⟨m.A, m.β, m.H, { m.w with drawn := m.w.drawn + 1 }⟩ a (by simp) ?_ ?_ ?_ s0.1 s0.2 ?_ (h4.step h2 s0.1)
  · intro i o v ho hv hb c H hc env
    obtain ⟨⟨v', b⟩, hx, rfl⟩ : ∃ x, t[i]? = some x ∧ x.1 = v := by simpa using hv
    rw [hsg c H hc]
    exact g2 i o v' b (by simpa using ho) hx env
  · intro i o v ho hv hb
    obtain ⟨⟨v', b⟩, hx, rfl⟩ : ∃ x, t[i]? = some x ∧ x.1 = v := by simpa using hv
    have hlt : (((t.map (·.2)).take i).filter id).length < ((t.map (·.2)).filter id).length := by
      have hm : ∀ (fl' : List Bool) (x : Nat), fl'.getD x false = true → ((fl'.take x).filter id).length < (fl'.filter id).length := by
        intro fl'
        induction fl' with
        | nil => intro x h; cases h
        | cons b fl' ih =>
          intro x h
          cases x with
          | zero => simp at h; subst h; simp
          | succ x =>
            have := ih x (by simpa using h)
            cases b <;> simp <;> exact this
      exact hm _ i hb
    exact ⟨H0, H0, hsi _ (by omega), hsi _ (by omega), fun env => g2 i o v' b (by simpa using ho) hx env⟩
  · intro i hi
    rw [Array.getElem?_replicate] at hi
    split at hi <;> cases hi
  · unfold unl
    have := List.length_filter_le (fun i => (Array.replicate l.toArray.size false)[i]? == some false) (List.range l.toArray.size)
    simpa using this
  · refine ⟨0, fun i hi => ⟨fun h => by omega, fun h => ?_⟩, Nat.zero_le _, by rw [hsi 0 (Nat.zero_le _)]; simp [h1], fun j h => ?_⟩
    all_goals
      rw [Array.getElem?_replicate] at h
      split at h <;> cases h
  · have : envA l.toArray (t.map (·.1)) (fun i => (Array.replicate l.toArray.size false).getD i false) (List.range l.toArray.size) = [] := by
      have : ∀ x : List Nat, envA l.toArray (t.map (·.1)) (fun i => (Array.replicate l.toArray.size false).getD i false) x = [] := by
        intro x
        induction x with
        | nil => rfl
        | cons i x ih =>
          have : (Array.replicate l.toArray.size false).getD i false = false := by
            rw [Array.getD_eq_getD_getElem?, Array.getElem?_replicate]
            split <;> rfl
          simp only [envA, this, ih]
      exact this _
    rw [this, List.nil_append]
    exact h3.step h2 s0.1
end rules
end Go.TL
set_option linter.unusedVariables false
set_option linter.unusedSimpArgs false
namespace Go.Proofs.YtonjiabmcbdhdaaGreat
open Go Go.TL
attribute [local irreducible] TR TO Then InBlock RetK Sound LoopK Kf GG ThenL
def oneS (p : Prog) (seen : List (Int × Str × Int)) (node : Int) (vis : List Str) (left : Int) (x : Ex) : Int :=
  if x.kind.1 = 2 ∨ x.kind.1 = 8 ∨ x.kind.1 = 9 then (if x.name ∈ vis then 0 else 6) else if x.kind.1 = 10 then callE p seen node left x else 0
def exprS (p : Prog) (seen : List (Int × Str × Int)) (node : Int) (vis : List Str) (left : Int) (e : Ex) : Int := orE (oneS p seen node vis left e) (firstE (oneS p seen node vis 1) (flats e.args))
def lf (left : Int) (pre : List Ex) : Int := if pre = [] then left else 1
theorem lf_add (left : Int) (pre : List Ex) (x : Ex) : lf left (pre ++ [x]) = 1 := by simp [lf]
def panF (g : Int → Ex → Int) (left n q : Int) (Hd : Int → Heap) (pre : List Ex) (x : Ex) : Out := if g (lf left pre) x = 0 then .go else .panic (failS n q (g (lf left pre) x)) (Hd (lf left pre))
theorem scan_pan1 (g : Int → Ex → Int) (left n q : Int) (Hd : Int → Heap) : ∀ (l pre : List Ex), pre ≠ [] → scanO (panF g left n q Hd) pre l = if firstE (g 1) l = 0 then .go else .panic (failS n q (firstE (g 1) l)) (Hd 1)
  | [], pre, _ => by simp [scanO, firstE]
  | x :: l, pre, hp => by
    have h1 : lf left pre = 1 := by simp [lf, hp]
    simp only [scanO, panF, firstE, h1]
    by_cases h : g 1 x = 0
    · simp only [h, if_true]; exact scan_pan1 g left n q Hd l _ (by simp)
    · simp [h]
theorem scan_pan (g : Int → Ex → Int) (left n q : Int) (Hd : Int → Heap) (x : Ex) (l : List Ex) : scanO (panF g left n q Hd) [] (x :: l) = if g left x = 0 then (if firstE (g 1) l = 0 then .go else .panic (failS n q (firstE (g 1) l)) (Hd 1)) else .panic (failS n q (g left x)) (Hd left) := by
  have h1 : lf left [] = left := by simp [lf]
  simp only [scanO, panF, h1]
  by_cases h : g left x = 0
  · simp only [h, if_true]; exact scan_pan1 g left n q Hd l _ (by simp)
  · simp [h]
structure SmallC (p : Prog) : Prop where
  nodes : p.nodes.length ≤ 1000000000
  each : ∀ u ∈ p.nodes, u.ins.length ≤ 1000000000 ∧ u.outs.length ≤ 1000000000
def ExOk (x : Ex) : Prop := (x.kind.1 = 10 → x.v.1 = 0 ∨ x.v.1 = 1) ∧ x.name.length ≤ 1000000000
set_option maxHeartbeats 2000000 in
theorem expr_one (p : Prog) (hp : SmallC p) (n q : Int) (seen : List (Int × Str × Int)) (hse : SeenOk seen) (hsn : SeenN p seen) (node left : Int) (a : Lv) (hk : (Ch.one a).ok) (e : Ex) (hw : wEx e ≤ 1000000000) (hex : ∀ x ∈ flat e, ExOk x) :
    SS 125 [.i node, .ref 4 0, .t (.ag (exC e)), .i left] p n q seen (.one a) (.one a) (exprS p seen node (Ch.vis (.one a)) left e) := by
  have hs := Each_sound e
  rw [exT_eq] at hs
  have hc0 : exC e = [T.n e.kind, T.n e.op, T.n e.t, T.n e.v, .s e.name, .sl 6 (e.args.map exT)] := rfl
  rw [hc0] at hs ⊢
  have hz : exprS p seen node (Ch.vis (.one a)) left e = exprS p seen node (Ch.vis (.one a)) left e := rfl
  conv at hz => rhs; unfold exprS orE
  generalize exprS p seen node (Ch.vis (.one a)) left e = z at hz ⊢
  refine Sound.err rfl (fun _ => rfl) ?_
  refine Sound.of tabOk Tryz.func125 (by kernel_rfl) rfl rfl ?_
  refine TR.dead ?_
  repeat' (first | refine wkt ?_ | refine wk ?_ | exact wkc | intro hc | refine wk2 ?_ ?_ | refine wv hs ?_ | fail)
  refine TR.rangeEach e (fun pre => (full p n q seen (.one a)) ++ [.cells [.ref 0 0], .cells [.i node], .cells [.ref 4 0], .cells [.t (T.n e.kind), .t (T.n e.op), .t (T.n e.t), .t (T.n e.v), .t (.s e.name), .t (.sl 6 (e.args.map exT))], .cells [.i (lf left pre)]]) (panF (oneS p seen node (Ch.vis (.one a))) left n q (fun u => .dead :: .dead :: ((Ch.heap (.one a)) ++ [.cells [.ref 0 0], .cells [.i node], .cells [.ref 4 0], .cells [.t (T.n e.kind), .t (T.n e.op), .t (T.n e.t), .t (T.n e.v), .t (.s e.name), .t (.sl 6 (e.args.map exT))], .cells [.i u]]))) rfl hw ?_ rfl rfl (fun _ => ⟨rfl, rfl⟩) (fun pre x => ?_) (fun fn pre x post hsp => ?_) (fun fn => ?_)
  · rw [show lf left [] = left from rfl]; rfl
  · unfold panF
    split <;> rename_i hq <;> split at hq <;> cases hq
    · trivial
    · exact ⟨rfl, rfl, rfl⟩
  · have hxk := hex x (by rw [hsp]; simp)
    have hno := hxk.2
    have hcx : exC x = [T.n x.kind, T.n x.op, T.n x.t, T.n x.v, .s x.name, .sl 6 (x.args.map exT)] := rfl
    have hcal := fun hv => callM_sound p hp.nodes hp.each n q seen hse hsn node (lf left pre) x hv hno
    have ho : oneS p seen node (Ch.vis (.one a)) (lf left pre) x = oneS p seen node (Ch.vis (.one a)) (lf left pre) x := rfl
    conv at ho => rhs; unfold oneS
    have hpf : panF (oneS p seen node (Ch.vis (.one a))) left n q (fun u => .dead :: .dead :: ((Ch.heap (.one a)) ++ [.cells [.ref 0 0], .cells [.i node], .cells [.ref 4 0], .cells [.t (T.n e.kind), .t (T.n e.op), .t (T.n e.t), .t (T.n e.v), .t (.s e.name), .t (.sl 6 (e.args.map exT))], .cells [.i u]])) pre x = if oneS p seen node (Ch.vis (.one a)) (lf left pre) x = 0 then .go else .panic (failS n q (oneS p seen node (Ch.vis (.one a)) (lf left pre) x)) (.dead :: .dead :: ((Ch.heap (.one a)) ++ [.cells [.ref 0 0], .cells [.i node], .cells [.ref 4 0], .cells [.t (T.n e.kind), .t (T.n e.op), .t (T.n e.t), .t (T.n e.v), .t (.s e.name), .t (.sl 6 (e.args.map exT))], .cells [.i (lf left pre)]])) := rfl
    have hla := lf_add left pre x
    generalize panF (oneS p seen node (Ch.vis (.one a))) left n q (fun u => .dead :: .dead :: ((Ch.heap (.one a)) ++ [.cells [.ref 0 0], .cells [.i node], .cells [.ref 4 0], .cells [.t (T.n e.kind), .t (T.n e.op), .t (T.n e.t), .t (T.n e.v), .t (.s e.name), .t (.sl 6 (e.args.map exT))], .cells [.i u]])) = pf at *
    generalize oneS p seen node (Ch.vis (.one a)) (lf left pre) x = z1 at *
    generalize lf left pre = lv at *
    rw [hcx] at hcal ⊢
    have hq : x.kind.1 = 10 ∨ x.kind.1 ≠ 10 := by omega
    rcases hq with hq | hq
    · have hcal := hcal (hxk.1 hq)
      rw [if_neg (by omega), if_pos hq] at ho
      rw [← ho] at hcal
      repeat' (first | refine wkt ?_ | refine wk ?_ | exact wkc | intro hc | refine wk2 ?_ ?_ | fail)
      refine ⟨rfl, ?_⟩
      repeat' (first | refine wkt ?_ | refine wka ?_ | refine wkD ?_ | refine wk ?_ | exact wkc | intro hc | refine wk2 ?_ ?_ | (apply TO.setGet; exact rfl; exact rfl; exact rfl; exact rfl; assumption; assumption) | (apply TO.nilGet; exact rfl; exact rfl; exact rfl; assumption) | (apply TO.setPut; exact rfl; exact rfl; exact rfl; exact rfl; assumption; assumption; exact rfl) | refine wms ?_ | (apply TO.sees hk; exact rfl; exact rfl; (first | exact rfl | exact Ch.tk _ _ _ _ _); assumption) | (apply TO.defined hk; exact rfl; exact rfl; (first | exact rfl | exact Ch.tk _ _ _ _ _); assumption) | refine we hcal ?_ ?_ | fail)
      · exact ⟨by rw [hpf, if_pos hc], by simp only [hla]; rfl, rfl⟩
      · exact ⟨_, by rw [hpf, if_neg hc]; rfl, rfl, rfl⟩
    · clear hcal
      repeat' (first | refine wkt ?_ | refine wk ?_ | exact wkc | intro hc | refine wk2 ?_ ?_ | fail)
      refine ⟨rfl, ?_⟩
      by_cases hm : x.name ∈ Ch.vis (.one a)
      · rw [if_pos hm] at ho
        repeat' (first | refine wkt ?_ | refine Go.TL.TR.regionS (envF := _) (g := True) [(.ref 0 0, false), (.ref 4 0, false), (.cp [T.n x.kind, T.n x.op, T.n x.t, T.n x.v, .s x.name, .sl 6 (x.args.map exT)] 4, false), (.s x.name, false), (.b true, true), (.tup [], true)] hmix (by dsimp only [List.map]; decide +kernel) ?_ rfl (by decide) ?_ | refine wk ?_ | exact wkc | intro hc | refine wk2 ?_ ?_ | exact And.intro (And.intro rfl rfl) trivial | refine And.intro (fun env => ?_) ?_ | exact trivial | exact absurd hm hc | exact absurd hc hm | exact (fun hf => hf.elim) | refine wms ?_ | (apply TO.sees hk; exact rfl; exact rfl; exact rfl; assumption) | fail)
        all_goals exact ⟨by rw [hpf, if_pos (by rw [ho]; clear hpf hs; grind)], by simp only [hla]; rfl, rfl⟩
      · rw [if_neg hm] at ho
        repeat' (first | refine wkt ?_ | refine Go.TL.TR.regionS (envF := _) (g := False) [(.ref 0 0, false), (.ref 4 0, false), (.cp [T.n x.kind, T.n x.op, T.n x.t, T.n x.v, .s x.name, .sl 6 (x.args.map exT)] 4, false), (.s x.name, false), (.b false, true), (.tup [], true)] hmix (by dsimp only [List.map]; decide +kernel) ?_ rfl (by decide) ?_ | refine wk ?_ | exact wkc | intro hc | refine wk2 ?_ ?_ | exact And.intro (And.intro rfl rfl) trivial | refine And.intro (fun env => ?_) ?_ | exact trivial | exact absurd hm hc | exact absurd hc hm | exact (fun hf => hf.elim) | refine wms ?_ | (apply TO.sees hk; exact rfl; exact rfl; exact rfl; assumption) | fail)
        all_goals first
          | exact ⟨by rw [hpf, if_pos (by rw [ho]; clear hpf hs; grind)], by simp only [hla]; rfl, rfl⟩
          | (have h6 : z1 = 6 := by rw [ho]; clear hpf hs; grind
             rw [h6, if_neg (by decide)] at hpf
             exact ⟨_, by rw [hpf]; rfl, rfl, rfl⟩)
  · rw [flat_eq, scan_pan]
    by_cases z1 : oneS p seen node (Ch.vis (.one a)) left e = 0
    · rw [if_pos z1] at hz ⊢
      by_cases z2 : firstE (oneS p seen node (Ch.vis (.one a)) 1) (flats e.args) = 0
      · rw [if_pos z2]
        simp only []
        rw [z2] at hz
        repeat' (first | refine wkt ?_ | refine wk ?_ | exact wkc | intro hc | refine wk2 ?_ ?_ | fail)
        exact retSN hz rfl rfl rfl rfl
      · rw [if_neg z2]
        simp only []
        (repeat' (first | refine LoopK.panic ?_ | refine wk ?_ | fail))
        exact retB z2 hz.symm rfl
    · rw [if_neg z1] at hz ⊢
      simp only []
      (repeat' (first | refine LoopK.panic ?_ | refine wk ?_ | fail))
      exact retB z1 hz.symm rfl
set_option maxHeartbeats 2000000 in
theorem expr_c1 (p : Prog) (hp : SmallC p) (n q : Int) (seen : List (Int × Str × Int)) (hse : SeenOk seen) (hsn : SeenN p seen) (node left : Int) (i : List Str) (a : Lv) (hk : (Ch.c1 i a).ok) (e : Ex) (hw : wEx e ≤ 1000000000) (hex : ∀ x ∈ flat e, ExOk x) :
    SS 125 [.i node, .ref 4 0, .t (.ag (exC e)), .i left] p n q seen (.c1 i a) (.c1 i a) (exprS p seen node (Ch.vis (.c1 i a)) left e) := by
  have hs := Each_sound e
  rw [exT_eq] at hs
  have hc0 : exC e = [T.n e.kind, T.n e.op, T.n e.t, T.n e.v, .s e.name, .sl 6 (e.args.map exT)] := rfl
  rw [hc0] at hs ⊢
  have hz : exprS p seen node (Ch.vis (.c1 i a)) left e = exprS p seen node (Ch.vis (.c1 i a)) left e := rfl
  conv at hz => rhs; unfold exprS orE
  generalize exprS p seen node (Ch.vis (.c1 i a)) left e = z at hz ⊢
  refine Sound.err rfl (fun _ => rfl) ?_
  refine Sound.of tabOk Tryz.func125 (by kernel_rfl) rfl rfl ?_
  refine TR.dead ?_
  repeat' (first | refine wkt ?_ | refine wk ?_ | exact wkc | intro hc | refine wk2 ?_ ?_ | refine wv hs ?_ | fail)
  refine TR.rangeEach e (fun pre => (full p n q seen (.c1 i a)) ++ [.cells [.ref 0 0], .cells [.i node], .cells [.ref 4 0], .cells [.t (T.n e.kind), .t (T.n e.op), .t (T.n e.t), .t (T.n e.v), .t (.s e.name), .t (.sl 6 (e.args.map exT))], .cells [.i (lf left pre)]]) (panF (oneS p seen node (Ch.vis (.c1 i a))) left n q (fun u => .dead :: .dead :: ((Ch.heap (.c1 i a)) ++ [.cells [.ref 0 0], .cells [.i node], .cells [.ref 4 0], .cells [.t (T.n e.kind), .t (T.n e.op), .t (T.n e.t), .t (T.n e.v), .t (.s e.name), .t (.sl 6 (e.args.map exT))], .cells [.i u]]))) rfl hw ?_ rfl rfl (fun _ => ⟨rfl, rfl⟩) (fun pre x => ?_) (fun fn pre x post hsp => ?_) (fun fn => ?_)
  · rw [show lf left [] = left from rfl]; rfl
  · unfold panF
    split <;> rename_i hq <;> split at hq <;> cases hq
    · trivial
    · exact ⟨rfl, rfl, rfl⟩
  · have hxk := hex x (by rw [hsp]; simp)
    have hno := hxk.2
    have hcx : exC x = [T.n x.kind, T.n x.op, T.n x.t, T.n x.v, .s x.name, .sl 6 (x.args.map exT)] := rfl
    have hcal := fun hv => callM_sound p hp.nodes hp.each n q seen hse hsn node (lf left pre) x hv hno
    have ho : oneS p seen node (Ch.vis (.c1 i a)) (lf left pre) x = oneS p seen node (Ch.vis (.c1 i a)) (lf left pre) x := rfl
    conv at ho => rhs; unfold oneS
    have hpf : panF (oneS p seen node (Ch.vis (.c1 i a))) left n q (fun u => .dead :: .dead :: ((Ch.heap (.c1 i a)) ++ [.cells [.ref 0 0], .cells [.i node], .cells [.ref 4 0], .cells [.t (T.n e.kind), .t (T.n e.op), .t (T.n e.t), .t (T.n e.v), .t (.s e.name), .t (.sl 6 (e.args.map exT))], .cells [.i u]])) pre x = if oneS p seen node (Ch.vis (.c1 i a)) (lf left pre) x = 0 then .go else .panic (failS n q (oneS p seen node (Ch.vis (.c1 i a)) (lf left pre) x)) (.dead :: .dead :: ((Ch.heap (.c1 i a)) ++ [.cells [.ref 0 0], .cells [.i node], .cells [.ref 4 0], .cells [.t (T.n e.kind), .t (T.n e.op), .t (T.n e.t), .t (T.n e.v), .t (.s e.name), .t (.sl 6 (e.args.map exT))], .cells [.i (lf left pre)]])) := rfl
    have hla := lf_add left pre x
    generalize panF (oneS p seen node (Ch.vis (.c1 i a))) left n q (fun u => .dead :: .dead :: ((Ch.heap (.c1 i a)) ++ [.cells [.ref 0 0], .cells [.i node], .cells [.ref 4 0], .cells [.t (T.n e.kind), .t (T.n e.op), .t (T.n e.t), .t (T.n e.v), .t (.s e.name), .t (.sl 6 (e.args.map exT))], .cells [.i u]])) = pf at *
    generalize oneS p seen node (Ch.vis (.c1 i a)) (lf left pre) x = z1 at *
    generalize lf left pre = lv at *
    rw [hcx] at hcal ⊢
    have hq : x.kind.1 = 10 ∨ x.kind.1 ≠ 10 := by omega
    rcases hq with hq | hq
    · have hcal := hcal (hxk.1 hq)
      rw [if_neg (by omega), if_pos hq] at ho
      rw [← ho] at hcal
      repeat' (first | refine wkt ?_ | refine wk ?_ | exact wkc | intro hc | refine wk2 ?_ ?_ | fail)
      refine ⟨rfl, ?_⟩
      repeat' (first | refine wkt ?_ | refine wka ?_ | refine wkD ?_ | refine wk ?_ | exact wkc | intro hc | refine wk2 ?_ ?_ | (apply TO.setGet; exact rfl; exact rfl; exact rfl; exact rfl; assumption; assumption) | (apply TO.nilGet; exact rfl; exact rfl; exact rfl; assumption) | (apply TO.setPut; exact rfl; exact rfl; exact rfl; exact rfl; assumption; assumption; exact rfl) | refine wms ?_ | (apply TO.sees hk; exact rfl; exact rfl; (first | exact rfl | exact Ch.tk _ _ _ _ _); assumption) | (apply TO.defined hk; exact rfl; exact rfl; (first | exact rfl | exact Ch.tk _ _ _ _ _); assumption) | refine we hcal ?_ ?_ | fail)
      · exact ⟨by rw [hpf, if_pos hc], by simp only [hla]; rfl, rfl⟩
      · exact ⟨_, by rw [hpf, if_neg hc]; rfl, rfl, rfl⟩
    · clear hcal
      repeat' (first | refine wkt ?_ | refine wk ?_ | exact wkc | intro hc | refine wk2 ?_ ?_ | fail)
      refine ⟨rfl, ?_⟩
      by_cases hm : x.name ∈ Ch.vis (.c1 i a)
      · rw [if_pos hm] at ho
        repeat' (first | refine wkt ?_ | refine Go.TL.TR.regionS (envF := _) (g := True) [(.ref 0 0, false), (.ref 4 0, false), (.cp [T.n x.kind, T.n x.op, T.n x.t, T.n x.v, .s x.name, .sl 6 (x.args.map exT)] 4, false), (.s x.name, false), (.b true, true), (.tup [], true)] hmix (by dsimp only [List.map]; decide +kernel) ?_ rfl (by decide) ?_ | refine wk ?_ | exact wkc | intro hc | refine wk2 ?_ ?_ | exact And.intro (And.intro rfl rfl) trivial | refine And.intro (fun env => ?_) ?_ | exact trivial | exact absurd hm hc | exact absurd hc hm | exact (fun hf => hf.elim) | refine wms ?_ | (apply TO.sees hk; exact rfl; exact rfl; exact rfl; assumption) | fail)
        all_goals exact ⟨by rw [hpf, if_pos (by rw [ho]; clear hpf hs; grind)], by simp only [hla]; rfl, rfl⟩
      · rw [if_neg hm] at ho
        repeat' (first | refine wkt ?_ | refine Go.TL.TR.regionS (envF := _) (g := False) [(.ref 0 0, false), (.ref 4 0, false), (.cp [T.n x.kind, T.n x.op, T.n x.t, T.n x.v, .s x.name, .sl 6 (x.args.map exT)] 4, false), (.s x.name, false), (.b false, true), (.tup [], true)] hmix (by dsimp only [List.map]; decide +kernel) ?_ rfl (by decide) ?_ | refine wk ?_ | exact wkc | intro hc | refine wk2 ?_ ?_ | exact And.intro (And.intro rfl rfl) trivial | refine And.intro (fun env => ?_) ?_ | exact trivial | exact absurd hm hc | exact absurd hc hm | exact (fun hf => hf.elim) | refine wms ?_ | (apply TO.sees hk; exact rfl; exact rfl; exact rfl; assumption) | fail)
        all_goals first
          | exact ⟨by rw [hpf, if_pos (by rw [ho]; clear hpf hs; grind)], by simp only [hla]; rfl, rfl⟩
          | (have h6 : z1 = 6 := by rw [ho]; clear hpf hs; grind
             rw [h6, if_neg (by decide)] at hpf
             exact ⟨_, by rw [hpf]; rfl, rfl, rfl⟩)
  · rw [flat_eq, scan_pan]
    by_cases z1 : oneS p seen node (Ch.vis (.c1 i a)) left e = 0
    · rw [if_pos z1] at hz ⊢
      by_cases z2 : firstE (oneS p seen node (Ch.vis (.c1 i a)) 1) (flats e.args) = 0
      · rw [if_pos z2]
        simp only []
        rw [z2] at hz
        repeat' (first | refine wkt ?_ | refine wk ?_ | exact wkc | intro hc | refine wk2 ?_ ?_ | fail)
        exact retSN hz rfl rfl rfl rfl
      · rw [if_neg z2]
        simp only []
        (repeat' (first | refine LoopK.panic ?_ | refine wk ?_ | fail))
        exact retB z2 hz.symm rfl
    · rw [if_neg z1] at hz ⊢
      simp only []
      (repeat' (first | refine LoopK.panic ?_ | refine wk ?_ | fail))
      exact retB z1 hz.symm rfl
end Go.Proofs.YtonjiabmcbdhdaaGreat
