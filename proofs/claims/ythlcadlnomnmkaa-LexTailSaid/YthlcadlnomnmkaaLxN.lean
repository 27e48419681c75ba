/-
  lex: a list of tokens as an argument.
-/
import Derived.Test.YthlcadlnomnmkaaLxM
set_option linter.unusedVariables false
set_option linter.unusedSimpArgs false
namespace Go.Proofs.Ythlcadlnomnmkaa
open Go Go.TL
attribute [local irreducible] TR TO Then InBlock RetK Sound LoopK

section
variable {H : Type}

theorem ty_int {n : Nat} {d : DataW H} {ts : List T} (h : TyD Try.prog n 3 d ts) : ∃ i : Int, d = .lit (.int .i64 i) ∧ ts = [.i i] ∧ -9223372036854775808 ≤ i ∧ i ≤ 9223372036854775807 := by
  cases n with
  | zero => exact h.elim
  | succ n =>
    simp only [TyD, Try.underlying3] at h
    obtain ⟨i, rfl, rfl, hw⟩ := h
    refine ⟨i, rfl, rfl, ?_⟩
    simpa [Lit.wf, IntKind.min, IntKind.max, IntKind.signed, IntKind.bits] using hw

theorem ty_str {n : Nat} {d : DataW H} {ts : List T} (h : TyD Try.prog n 9 d ts) : ∃ l : Str, d = .lit (.string l) ∧ ts = [.s l] ∧ l.length ≤ maxLen := by
  cases n with
  | zero => exact h.elim
  | succ n =>
    simp only [TyD, Try.underlying9] at h
    exact h

theorem c_int : Try.prog.cellsOf 3 = 1 := by kernel_rfl
theorem c_str : Try.prog.cellsOf 9 = 1 := by kernel_rfl
theorem c_tok : Try.prog.cellsOf 30 = 3 := by kernel_rfl

theorem ty_tok {n : Nat} {d : DataW H} {ts : List T} (h : TyD Try.prog n 30 d ts) : ∃ t : Tok, ts = [.i t.1, .s t.2.1, .i t.2.2] ∧ t.2.1.length ≤ maxLen := by
  cases n with
  | zero => exact h.elim
  | succ n =>
    simp only [TyD, Try.underlying30] at h
    obtain ⟨xs, rfl, hl, hx, hf⟩ := h
    rw [c_tok] at hl
    match xs, hx, ts, hl with
    | [x0, x1, x2], _, [a, b, c], _ =>
      have f0 : TyD Try.prog n 3 x0 (([a, b, c].drop 0).take (Try.prog.cellsOf 3)) := hf 0 _ x0 rfl rfl
      have f1 : TyD Try.prog n 9 x1 (([a, b, c].drop 1).take (Try.prog.cellsOf 9)) := hf 1 _ x1 rfl rfl
      have f2 : TyD Try.prog n 3 x2 (([a, b, c].drop 2).take (Try.prog.cellsOf 3)) := hf 2 _ x2 rfl rfl
      simp only [c_int, c_str, List.drop_zero, List.drop_succ_cons, List.take_succ_cons, List.take_zero] at f0 f1 f2
      obtain ⟨i0, _, e0, _⟩ := ty_int f0
      obtain ⟨i1, _, e1, h1⟩ := ty_str f1
      obtain ⟨i2, _, e2, _⟩ := ty_int f2
      cases e0; cases e1; cases e2
      exact ⟨(i0, i1, i2), rfl, h1⟩

/-- A list of tokens as an argument. -/
theorem fits_toks {ds : List (DataW H)} {ys : List T} {ts : List TypeId} (h : Fits Try.prog (22 :: ts) ds ys) : ∃ (l : List Tok) (d : DataW H) (ds' : List (DataW H)) (ys' : List T), l.length ≤ maxLen ∧ (∀ t ∈ l, t.2.1.length ≤ maxLen) ∧ ds = d :: ds' ∧ ys = .sl 3 (l.map tokT) :: ys' ∧ Fits Try.prog ts ds' ys' := by
  cases ds with
  | nil => cases ys <;> exact h.elim
  | cons d ds =>
    cases ys with
    | nil => exact h.elim
    | cons y ys =>
      obtain ⟨⟨h1, n, h2⟩, h3⟩ := h
      cases n with
      | zero => exact h2.elim
      | succ n =>
        simp only [TyD, Try.underlying22] at h2
        obtain ⟨els, sp, es, _, hy, hl, hm, he⟩ := h2
        have key : ∀ (es : List T) (els : List (DataW H)), es.length = els.length → (∀ (i : Nat) x y, els[i]? = some x → es[i]? = some y → y = mkT (aggB Try.prog 30) y.cells ∧ TyD Try.prog n 30 x y.cells) → ∃ l : List Tok, es = l.map tokT ∧ ∀ t ∈ l, t.2.1.length ≤ maxLen := by
          intro es
          induction es with
          | nil => intro els _ _; exact ⟨[], rfl, by simp⟩
          | cons e es ih =>
            intro els hl he
            cases els with
            | nil => simp at hl
            | cons x els =>
              obtain ⟨l, hl1, hl2⟩ := ih els (by simpa using hl) (fun i x y hx hy => he (i + 1) x y (by simpa using hx) (by simpa using hy))
              obtain ⟨g1, g2⟩ := he 0 x e rfl rfl
              obtain ⟨t, g3, g4⟩ := ty_tok g2
              refine ⟨t :: l, ?_, fun u hu => ?_⟩
              · rw [hl1, g1, g3]; rfl
              · rcases List.mem_cons.1 hu with rfl | hu
                · exact g4
                · exact hl2 u hu
        obtain ⟨l, rfl, hl2⟩ := key es els hl he
        refine ⟨l, d, ds, ys, by simpa using hm, hl2, rfl, ?_, h3⟩
        rw [h1, hy, c_tok]
        rfl
end

theorem lexJoins_all {H : Type} (ds : List (DataW H)) (ys : List T) (h : Fits Try.prog [22] ds ys) : Sound Try.prog 4 (ys.map .t) [] (fun r H' => r = .ret (.b true) ∧ H' = []) := by
  obtain ⟨l, d, ds', ys', h1, h2, rfl, rfl, h'⟩ := fits_toks h
  obtain ⟨rfl, rfl⟩ := fits_nil h'
  exact lexJoins_sound l h1 h2

end Go.Proofs.Ythlcadlnomnmkaa
