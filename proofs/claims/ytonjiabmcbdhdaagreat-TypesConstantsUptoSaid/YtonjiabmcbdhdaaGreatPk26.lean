import Derived.Test.YtonjiabmcbdhdaaGreatRows
import Derived.Test.YtonjiabmcbdhdaaGreatPk16
import Derived.Test.YtonjiabmcbdhdaaGreatPk24
import Derived.Test.YtonjiabmcbdhdaaGreatPk25
set_option linter.unusedSimpArgs false
set_option linter.unusedVariables false
namespace Go.Proofs.YtonjiabmcbdhdaaGreat
open Go Go.TL
variable {H : Type}
theorem cz_prog : Tryz.prog.cellsOf 25 = 2 := by kernel_rfl
theorem agg_prog : aggB Tryz.prog 25 = true := by unfold aggB; rw [Tryz.underlying25]
theorem ty_sta {n : Nat} (rec : ∀ j, j < n → ∀ (d : DataW H) ts, TyD Tryz.prog j 64 d ts → ∃ o : Auto, mkT true ts = autoT o) {d : DataW H} {ts : List T} (h : TyD Tryz.prog n 107 d ts) : ∃ o : Sta, mkT true ts = staT o := by
 cases n with
 | zero => exact h.elim
 | succ m =>
   simp only [TyD, Tryz.underlying107] at h
   obtain ⟨xs, rfl, hl, hx, hf⟩ := h
   rw [cz_states] at hl
   match xs, hx, ts, hl with
   | [x0, x1, x2, x3, x4, x5], _, [a, b, c, e, g, i], _ =>
     have f0 : TyD Tryz.prog m 9 x0 (([a, b, c, e, g, i].drop 0).take (Tryz.prog.cellsOf 9)) := hf 0 _ x0 rfl rfl
     have f1 : TyD Tryz.prog m 42 x1 (([a, b, c, e, g, i].drop 1).take (Tryz.prog.cellsOf 42)) := hf 1 _ x1 rfl rfl
     have f2 : TyD Tryz.prog m 43 x2 (([a, b, c, e, g, i].drop 2).take (Tryz.prog.cellsOf 43)) := hf 2 _ x2 rfl rfl
     have f3 : TyD Tryz.prog m 44 x3 (([a, b, c, e, g, i].drop 3).take (Tryz.prog.cellsOf 44)) := hf 3 _ x3 rfl rfl
     have f4 : TyD Tryz.prog m 105 x4 (([a, b, c, e, g, i].drop 4).take (Tryz.prog.cellsOf 105)) := hf 4 _ x4 rfl rfl
     have f5 : TyD Tryz.prog m 105 x5 (([a, b, c, e, g, i].drop 5).take (Tryz.prog.cellsOf 105)) := hf 5 _ x5 rfl rfl
     simp only [c1_autos, c1_decls, c1_eqs, c1_str, c1_trans, List.drop_zero, List.drop_succ_cons, List.take_succ_cons, List.take_zero] at f0 f1 f2 f3 f4 f5
     obtain ⟨v0, e0⟩ := ty_s f0
     obtain ⟨v1, e1⟩ := ty_sl declT Tryz.underlying42 cz_decls f1 (fun k hk d ts ht => by
      obtain ⟨u, hu⟩ := ty_decl ht
      exact ⟨u, by rw [agg_decl]; first | exact hu | (rw [hu]; rfl)⟩)
     obtain ⟨v2, e2⟩ := ty_sl equT Tryz.underlying43 cz_eqs f2 (fun k hk d ts ht => by
      obtain ⟨u, hu⟩ := ty_equ ht
      exact ⟨u, by rw [agg_equ]; first | exact hu | (rw [hu]; rfl)⟩)
     obtain ⟨v3, e3⟩ := ty_sl autoT Tryz.underlying44 cz_autos f3 (fun k hk d ts ht => by
      obtain ⟨u, hu⟩ := rec k (by omega) d ts ht
      exact ⟨u, by rw [agg_auto]; first | exact hu | (rw [hu]; rfl)⟩)
     obtain ⟨v4, e4⟩ := ty_sl tranT Tryz.underlying105 cz_trans f4 (fun k hk d ts ht => by
      obtain ⟨u, hu⟩ := ty_tran ht
      exact ⟨u, by rw [agg_tran]; first | exact hu | (rw [hu]; rfl)⟩)
     obtain ⟨v5, e5⟩ := ty_sl tranT Tryz.underlying105 cz_trans f5 (fun k hk d ts ht => by
      obtain ⟨u, hu⟩ := ty_tran ht
      exact ⟨u, by rw [agg_tran]; first | exact hu | (rw [hu]; rfl)⟩)
     simp only [List.cons.injEq, and_true] at e0 e1 e2 e3 e4 e5
     subst e0 e1 e2 e3 e4 e5
     refine ⟨.mk v0 v1 v2 v3 v4 v5, ?_⟩
     rw [staT_C]; unfold staC
     rfl
theorem ty_auto : ∀ (n m : Nat), m ≤ n → ∀ (d : DataW H) (ts : List T), TyD Tryz.prog m 64 d ts → ∃ o : Auto, mkT true ts = autoT o := by
 intro n
 induction n with
 | zero => intro m hm d ts h; have : m = 0 := by omega
           subst this; exact h.elim
 | succ n ih =>
   intro m hm d ts h
   cases m with
   | zero => exact h.elim
   | succ m =>
     simp only [TyD, Tryz.underlying64] at h
     obtain ⟨xs, rfl, hl, hx, hf⟩ := h
     rw [cz_autos] at hl
     match xs, hx, ts, hl with
     | [x0], _, [a], _ =>
       have f0 : TyD Tryz.prog m 62 x0 (([a].drop 0).take (Tryz.prog.cellsOf 62)) := hf 0 _ x0 rfl rfl
       simp only [c1_states, List.drop_zero, List.take_succ_cons, List.take_zero] at f0
       obtain ⟨v0, e0⟩ := ty_sl staT Tryz.underlying62 cz_states f0 (fun k hk d ts ht => by
        obtain ⟨u, hu⟩ := ty_sta (fun j hj d ts h => ih j (by omega) d ts h) ht
        exact ⟨u, by rw [agg_sta]; exact hu⟩)
       simp only [List.cons.injEq, and_true] at e0
       subst e0
       refine ⟨.mk v0, ?_⟩
       rw [autoT_C]
       rfl
theorem ty_nod {n : Nat} {d : DataW H} {ts : List T} (h : TyD Tryz.prog n 46 d ts) : ∃ o : Nod, mkT true ts = nodT o := by
 cases n with
 | zero => exact h.elim
 | succ m =>
   simp only [TyD, Tryz.underlying46] at h
   obtain ⟨xs, rfl, hl, hx, hf⟩ := h
   rw [cz_nodes] at hl
   match xs, hx, ts, hl with
   | [x0, x1, x2, x3, x4, x5, x6, x7], _, [a, b, c, e, g, i, j, k], _ =>
     have f0 : TyD Tryz.prog m 9 x0 (([a, b, c, e, g, i, j, k].drop 0).take (Tryz.prog.cellsOf 9)) := hf 0 _ x0 rfl rfl
     have f1 : TyD Tryz.prog m 42 x1 (([a, b, c, e, g, i, j, k].drop 1).take (Tryz.prog.cellsOf 42)) := hf 1 _ x1 rfl rfl
     have f2 : TyD Tryz.prog m 42 x2 (([a, b, c, e, g, i, j, k].drop 2).take (Tryz.prog.cellsOf 42)) := hf 2 _ x2 rfl rfl
     have f3 : TyD Tryz.prog m 42 x3 (([a, b, c, e, g, i, j, k].drop 3).take (Tryz.prog.cellsOf 42)) := hf 3 _ x3 rfl rfl
     have f4 : TyD Tryz.prog m 43 x4 (([a, b, c, e, g, i, j, k].drop 4).take (Tryz.prog.cellsOf 43)) := hf 4 _ x4 rfl rfl
     have f5 : TyD Tryz.prog m 44 x5 (([a, b, c, e, g, i, j, k].drop 5).take (Tryz.prog.cellsOf 44)) := hf 5 _ x5 rfl rfl
     have f6 : TyD Tryz.prog m 33 x6 (([a, b, c, e, g, i, j, k].drop 6).take (Tryz.prog.cellsOf 33)) := hf 6 _ x6 rfl rfl
     have f7 : TyD Tryz.prog m 33 x7 (([a, b, c, e, g, i, j, k].drop 7).take (Tryz.prog.cellsOf 33)) := hf 7 _ x7 rfl rfl
     simp only [c1_autos, c1_decls, c1_eqs, c1_exs, c1_str, List.drop_zero, List.drop_succ_cons, List.take_succ_cons, List.take_zero] at f0 f1 f2 f3 f4 f5 f6 f7
     obtain ⟨v0, e0⟩ := ty_s f0
     obtain ⟨v1, e1⟩ := ty_sl declT Tryz.underlying42 cz_decls f1 (fun k hk d ts ht => by
      obtain ⟨u, hu⟩ := ty_decl ht
      exact ⟨u, by rw [agg_decl]; first | exact hu | (rw [hu]; rfl)⟩)
     obtain ⟨v2, e2⟩ := ty_sl declT Tryz.underlying42 cz_decls f2 (fun k hk d ts ht => by
      obtain ⟨u, hu⟩ := ty_decl ht
      exact ⟨u, by rw [agg_decl]; first | exact hu | (rw [hu]; rfl)⟩)
     obtain ⟨v3, e3⟩ := ty_sl declT Tryz.underlying42 cz_decls f3 (fun k hk d ts ht => by
      obtain ⟨u, hu⟩ := ty_decl ht
      exact ⟨u, by rw [agg_decl]; first | exact hu | (rw [hu]; rfl)⟩)
     obtain ⟨v4, e4⟩ := ty_sl equT Tryz.underlying43 cz_eqs f4 (fun k hk d ts ht => by
      obtain ⟨u, hu⟩ := ty_equ ht
      exact ⟨u, by rw [agg_equ]; first | exact hu | (rw [hu]; rfl)⟩)
     obtain ⟨v5, e5⟩ := ty_sl autoT Tryz.underlying44 cz_autos f5 (fun k hk d ts ht => by
      obtain ⟨u, hu⟩ := ty_auto k k (Nat.le_refl _) d ts ht
      exact ⟨u, by rw [agg_auto]; first | exact hu | (rw [hu]; rfl)⟩)
     obtain ⟨v6, e6⟩ := ty_sl exT Tryz.underlying33 cz_exs f6 (fun k hk d ts ht => by
      obtain ⟨u, hu⟩ := ty_ex k k (Nat.le_refl _) _ _ ht
      exact ⟨u, by rw [agg_ex, hu, exT_eq]; rfl⟩)
     obtain ⟨v7, e7⟩ := ty_sl exT Tryz.underlying33 cz_exs f7 (fun k hk d ts ht => by
      obtain ⟨u, hu⟩ := ty_ex k k (Nat.le_refl _) _ _ ht
      exact ⟨u, by rw [agg_ex, hu, exT_eq]; rfl⟩)
     simp only [List.cons.injEq, and_true] at e0 e1 e2 e3 e4 e5 e6 e7
     subst e0 e1 e2 e3 e4 e5 e6 e7
     refine ⟨⟨v0, v1, v2, v3, v4, v5, v6, v7⟩, ?_⟩
     skip
     rfl
theorem ty_prog {n : Nat} {d : DataW H} {ts : List T} (h : TyD Tryz.prog n 25 d ts) : ∃ o : Prog, mkT true ts = .ag (progC o) := by
 cases n with
 | zero => exact h.elim
 | succ m =>
   simp only [TyD, Tryz.underlying25] at h
   obtain ⟨xs, rfl, hl, hx, hf⟩ := h
   rw [cz_prog] at hl
   match xs, hx, ts, hl with
   | [x0, x1], _, [a, b], _ =>
     have f0 : TyD Tryz.prog m 22 x0 (([a, b].drop 0).take (Tryz.prog.cellsOf 22)) := hf 0 _ x0 rfl rfl
     have f1 : TyD Tryz.prog m 23 x1 (([a, b].drop 1).take (Tryz.prog.cellsOf 23)) := hf 1 _ x1 rfl rfl
     simp only [c1_ens, c1_nodes, List.drop_zero, List.drop_succ_cons, List.take_succ_cons, List.take_zero] at f0 f1
     obtain ⟨v0, e0⟩ := ty_sl enT Tryz.underlying22 cz_ens f0 (fun k hk d ts ht => by
      obtain ⟨u, hu⟩ := ty_en ht
      exact ⟨u, by rw [agg_en]; first | exact hu | (rw [hu]; rfl)⟩)
     obtain ⟨v1, e1⟩ := ty_sl nodT Tryz.underlying23 cz_nodes f1 (fun k hk d ts ht => by
      obtain ⟨u, hu⟩ := ty_nod ht
      exact ⟨u, by rw [agg_nod]; first | exact hu | (rw [hu]; rfl)⟩)
     simp only [List.cons.injEq, and_true] at e0 e1
     subst e0 e1
     refine ⟨⟨v0, v1⟩, ?_⟩
     skip
     rfl
end Go.Proofs.YtonjiabmcbdhdaaGreat
namespace Go.Proofs.YtonjiabmcbdhdaaGreat
open Go Go.TL
variable {H : Type}
def tilesF (P : Program) : Nat → List Field → Nat → Bool
 | o, [], e => Nat.beq o e
 | o, g :: gs, e => Nat.beq g.offset o && tilesF P (o + P.cellsOf g.type) gs e
def tilesB (P : Program) (t : TypeId) : Bool := match P.underlying t with
 | some (.struct fs) => tilesF P 0 fs.toList (P.cellsOf t)
 | _ => true
theorem tiles_sum {P : Program} : ∀ (gs : List Field) (xs : List (DataW H)) (o e : Nat) (ts : List T), gs.length = xs.length → tilesF P o gs e = true → ts.length = e →
  (∀ (j : Nat) g x, gs[j]? = some g → xs[j]? = some x → ((((ts.drop g.offset).take (P.cellsOf g.type)).map T.w).sum + 1 ≤ 2 * Rows.uptoBulk x)) → ((ts.drop o).map T.w).sum ≤ 2 * Rows.uptoBulkAll xs
 | [], [], o, e, ts, _, ht, hl, _ => by
   simp [tilesF] at ht
   rw [List.drop_of_length_le (by omega)]; simp
 | g :: gs, x :: xs, o, e, ts, hlen, ht, hl, h => by
   simp only [tilesF, Bool.and_eq_true, Nat.beq_eq] at ht
   obtain ⟨h1, h2⟩ := ht
   have ih := tiles_sum gs xs (o + P.cellsOf g.type) e ts (by simpa using hlen) h2 hl (fun j g x hg hx => h (j + 1) g x (by simpa using hg) (by simpa using hx))
   have h0 := h 0 g x rfl rfl
   rw [h1] at h0
   have hs : ts.drop o = (ts.drop o).take (P.cellsOf g.type) ++ ts.drop (o + P.cellsOf g.type) := by
    rw [← List.drop_drop, List.take_append_drop]
   rw [hs, List.map_append, List.sum_append]
   simp only [Rows.uptoBulkAll]
   omega
 | [], _ :: _, _, _, _, hlen, _, _, _ => by simp at hlen
 | _ :: _, [], _, _, _, hlen, _, _, _ => by simp at hlen
theorem tyD_w {P : Program} {l : List TypeId} (hP : plainSetB P l = true) (hT : ∀ t ∈ l, tilesB P t = true) : ∀ (n : Nat) (t : TypeId), t ∈ l → ∀ (d : DataW H) (ts : List T), TyD P n t d ts → (ts.map T.w).sum + 1 ≤ 2 * Rows.uptoBulk d
 | 0, _, _, _, _, h => h.elim
 | n + 1, t, htl, d, ts, h => by
   unfold TyD at h
   have ht := hT t htl
   have hcl := List.all_eq_true.1 hP t htl
   unfold tilesB at ht
   split at h
   ·obtain ⟨b, rfl, rfl⟩ := h; simp [Rows.uptoBulk, T.w, strW]
   ·obtain ⟨i, rfl, rfl, _⟩ := h; simp [Rows.uptoBulk, T.w, strW]
   ·obtain ⟨l, rfl, rfl, _⟩ := h
    have : (T.v (str l)).w = 1 + l.length := w_s l
    simp only [List.map_cons, List.map_nil, List.sum_cons, List.sum_nil, Rows.uptoBulk]
    omega
   ·rename_i e hu
    have hel : e ∈ l := by rw [hu] at hcl; simp at hcl; exact hcl.1.2
    obtain ⟨els, sp, es, hd, rfl, hl, _, he⟩ := h
    have key : ∀ (es : List T) (els : List (DataW H)), es.length = els.length → (∀ (i : Nat) x y, els[i]? = some x → es[i]? = some y → y = mkT (aggB P e) y.cells ∧ TyD P n e x y.cells) → (es.map T.w).sum ≤ 2 * Rows.uptoBulkAll els := by
     intro es
     induction es with
     | nil => intro els hl _; simp
     | cons y es ih =>
       intro els hl he
       cases els with
       | nil => simp at hl
       | cons x els =>
         have h1 := ih els (by simpa using hl) (fun i x y hx hy => he (i + 1) x y (by simpa using hx) (by simpa using hy))
         obtain ⟨g1, g2⟩ := he 0 x y rfl rfl
         have h2 := tyD_w hP hT n e hel x y.cells g2
         have h3 : y.w ≤ (y.cells.map T.w).sum + 1 := by
          cases y with
          | ag cs => rw [w_ag]; simp [T.cells]; omega
          | v x => simp [T.cells]
          | sl sz es => simp [T.cells]
         simp only [List.map_cons, List.sum_cons, Rows.uptoBulkAll]
         omega
    have hk := key es els hl he
    have hw : ((T.sl (P.cellsOf e) es).w) = 1 + (es.map T.w).sum := w_sl _ _
    simp only [List.map_cons, List.map_nil, List.sum_cons, List.sum_nil]
    rcases hd with ⟨rfl, rfl⟩ | rfl
    ·simp [Rows.uptoBulkAll] at hk
     simp only [Rows.uptoBulk]; omega
    ·simp only [Rows.uptoBulk]; omega
   ·rename_i fs hu
    obtain ⟨xs, rfl, hl, hx, hf⟩ := h
    rw [hu] at ht
    have := tiles_sum fs.toList xs 0 (P.cellsOf t) ts (by simpa using hx.symm) ht hl (fun j g x hg hx => tyD_w hP hT n g.type (by rw [hu] at hcl; exact List.contains_iff_mem.1 (List.all_eq_true.1 hcl g (List.mem_of_getElem? hg))) x _ (hf j g x (by simpa using hg) hx))
    simp only [List.drop_zero] at this
    simp only [Rows.uptoBulk]; omega
   ·exact h.elim
end Go.Proofs.YtonjiabmcbdhdaaGreat
namespace Go.Proofs.YtonjiabmcbdhdaaGreat
open Go Go.TL
variable {H : Type}
def progL : List TypeId := [25, 22, 81, 23, 46, 42, 78, 76, 101, 43, 49, 33, 35, 44, 64, 62, 107, 105, 148, 47, 9, 3, 4, 5]
theorem plainL : plainSetB Tryz.prog progL = true := by kernel_rfl
theorem tilesL : ∀ t ∈ progL, tilesB Tryz.prog t = true := List.all_eq_true.1 (by kernel_rfl)
theorem fits_cons {P : Program} {t : TypeId} {ts : List TypeId} {ds : List (DataW H)} {ys : List T} (h : Fits P (t :: ts) ds ys) : ∃ d ds' y ys', ds = d :: ds' ∧ ys = y :: ys' ∧ (y = mkT (aggB P t) y.cells ∧ ∃ n, TyD P n t d y.cells) ∧ Fits P ts ds' ys' := by
 cases ds with
 | nil => cases ys <;> exact h.elim
 | cons d ds => cases ys with
   | nil => exact h.elim
   | cons y ys => exact ⟨d, ds, y, ys, rfl, rfl, h.1, h.2⟩
theorem fits_end {P : Program} {ds : List (DataW H)} {ys : List T} (h : Fits P [] ds ys) : ds = [] ∧ ys = [] := by
 cases ds <;> cases ys <;> first | exact ⟨rfl, rfl⟩ | exact h.elim
theorem bulk_cons (d : DataW H) (ds : List (DataW H)) : Rows.uptoBulkAll (d :: ds) = Rows.uptoBulk d + Rows.uptoBulkAll ds := by simp [Rows.uptoBulkAll]
theorem prog_in {d : DataW H} {y : T} (h : y = mkT (aggB Tryz.prog 25) y.cells ∧ ∃ n, TyD Tryz.prog n 25 d y.cells) : ∃ p : Prog, y = .ag (progC p) ∧ (T.ag (progC p)).w ≤ 2 * Rows.uptoBulk d := by
 obtain ⟨h1, n, h2⟩ := h
 obtain ⟨p, hp⟩ := ty_prog h2
 rw [agg_prog, hp] at h1
 have := tyD_w plainL tilesL n _ (by decide +kernel) d y.cells h2
 refine ⟨p, h1, ?_⟩
 have hc : y.cells = progC p := by rw [h1]; rfl
 rw [hc] at this
 rw [w_ag]; omega
theorem ex_in {d : DataW H} {y : T} (h : y = mkT (aggB Tryz.prog 35) y.cells ∧ ∃ n, TyD Tryz.prog n 35 d y.cells) : ∃ e : Ex, y = .ag (exC e) := by
 obtain ⟨h1, n, h2⟩ := h
 obtain ⟨e, he⟩ := ty_ex n n (Nat.le_refl _) _ _ h2
 rw [agg_ex, he] at h1
 exact ⟨e, h1⟩
theorem int_in {d : DataW H} {y : T} (h : y = mkT (aggB Tryz.prog 3) y.cells ∧ ∃ n, TyD Tryz.prog n 3 d y.cells) : ∃ i : I64, y = T.n i := by
 obtain ⟨h1, n, h2⟩ := h
 obtain ⟨i, hi⟩ := ty_i h2
 have ha : aggB Tryz.prog 3 = false := by unfold aggB; rw [Tryz.underlying3]
 rw [ha, hi] at h1
 exact ⟨i, h1⟩
end Go.Proofs.YtonjiabmcbdhdaaGreat
namespace Go.Proofs.YtonjiabmcbdhdaaGreat
open Go Go.TL
attribute [local irreducible] TR TO Then InBlock RetK Sound LoopK Kf GG ThenL
theorem wka {G Q : Prop} (k : Q) (h : Hold Q → G := by
  (intro k; apply Go.TL.TO.allocC2 tabOk; exact rfl; exact rfl; exact rfl; exact rfl; exact rfl; exact rfl; exact rfl; exact rfl; exact rfl; exact Nat.le_of_ble_eq_true rfl; exact k.p)) : G := h ⟨k⟩
theorem retQ {rs : List ResultVar} {env : Env} {H H1 : Heap} {v : SV} {n q q' c c' : Int} (h0 : c' ≠ 0) (hc : c' = c) (hq : q' = q) (hN : Nat.ble 1 H.length = true) (hb : blksUnder H.length H = true) :
  RetK tab rs 1 (Err0 c v (failV n q c) H1 1) (.panic (failV n q' c')) env H := by
 subst hc hq; exact RetK.errP h0 hN rfl hb
theorem firstI_at {α : Type} {f : α → Int} {l : List α} {k : Nat} (hk : k < l.length) (h : firstE f (l.take k) = 0) (hn : f l[k] ≠ 0) : firstI f l = ((k : Int), f l[k]) := by
 conv => lhs; rw [← List.take_append_drop k l]
 rw [firstI_append, if_pos h, List.drop_eq_getElem_cons hk, firstE, if_neg hn, if_neg hn, firstI, if_neg hn]
 simp; omega
theorem w_nod (n : Nod) : (declsT n.ins).w + (declsT n.outs).w + (declsT n.locals).w + (T.sl 7 (n.eqs.map equT)).w + (T.sl 1 (n.autos.map autoT)).w + (T.sl 6 (n.assume.map exT)).w + (T.sl 6 (n.ensure.map exT)).w ≤ (nodT n).w := by
 rw [show nodT n = .ag (nodC n) from rfl, w_ag]; simp only [nodC, List.map_cons, List.map_nil, List.sum_cons, List.sum_nil]; omega
set_option maxHeartbeats 1000000 in
theorem nodeM_sound (es : List En) (a b i : Int) (n : Nod) (hw : (nodT n).w ≤ 1000000000) :
  Sound Tryz.prog 74 [.ref 0 0, .i i, .t (.ag (nodC n))] [lookB es a b] (Err (nodeX es n).2 (.tup []) (failV i (nodeX es n).1 (nodeX es n).2) [lookB es i (-1)]) := by
 refine Sound.err rfl (fun _ => rfl) ?_
 have hwn := w_nod n
 have l1 := w_lenM equT 7 n.eqs
 have l2 := w_lenM autoT 1 n.autos
 have l3 := w_lenM exT 6 n.assume
 have l4 := w_lenM exT 6 n.ensure
 have m1 : (n.ins.map declT).length = n.ins.length := List.length_map _
 have m2 : (n.outs.map declT).length = n.outs.length := List.length_map _
 have m3 : (n.locals.map declT).length = n.locals.length := List.length_map _
 have m4 : (n.eqs.map equT).length = n.eqs.length := List.length_map _
 have m5 : (n.autos.map autoT).length = n.autos.length := List.length_map _
 have m6 : (n.assume.map exT).length = n.assume.length := List.length_map _
 have m7 : (n.ensure.map exT).length = n.ensure.length := List.length_map _
 have hi := identM_sound es i (-1) n.name
 have hd1 := declsM_sound es i (-1) n.ins true (by omega)
 have hd2 := declsM_sound es i (-1) n.outs true (by omega)
 have hd3 := declsM_sound es i (-1) n.locals false (by omega)
 have heq : ∀ (q : Int) u, u ∈ n.eqs → LS 120 [.t (.ag (equC u))] es i q (equE es u) := fun q u hu => equM_sound es i q u (by have := w_inM (f := equT) (sz := 7) hu; omega)
 have hau : ∀ u, u ∈ n.autos → LS 121 [.t (.ag (autoC u)), .i 0] es i (-1) (autoE es 3 u) := fun u hu => autoM_sound es i (-1) u (by have := w_inM (f := autoT) (sz := 1) hu; omega)
 have hex : ∀ u, u ∈ n.assume ∨ u ∈ n.ensure → wEx u ≤ 1000000000 := fun u hu => by
  have := wEx_le u
  rcases hu with hu | hu
  ·have := w_inM (f := exT) (sz := 6) hu; omega
  ·have := w_inM (f := exT) (sz := 6) hu; omega
 have hz : nodeX es n = nodeX es n := rfl
 conv at hz => rhs; unfold nodeX headE tailE orE
 generalize nodeX es n = z at hz ⊢
 unfold nodC
 clear hwn hw
 refine Sound.of tabOk Tryz.func74 (by kernel_rfl) rfl rfl ?_
 repeat' (first | refine wkt ?_ | refine wk ?_ | exact wkc | intro hc | refine wk2 ?_ ?_ | refine wm ?_ | refine we hi ?_ ?_ | refine we hd1 ?_ ?_ | refine we hd2 ?_ ?_ | refine we hd3 ?_ ?_ | fail)
 all_goals first
  | ((repeat' (first | refine LoopK.panic ?_ | refine wk ?_ | fail)); apply retQ; (first | assumption | decide); (clear hi hd1 hd2 hd3 heq hau hex; grind); (clear hi hd1 hd2 hd3 heq hau hex; grind); exact rfl; exact rfl)
  | skip
 refine TR.loopN n.eqs.length (fun k => firstE (equE es) (n.eqs.take k) = 0) (fun k => [(0, .ref 0 0), (5, .cp [.s n.name, declsT n.ins, declsT n.outs, declsT n.locals, .sl 7 (n.eqs.map equT), .sl 1 (n.autos.map autoT), .sl 6 (n.assume.map exT), .sl 6 (n.ensure.map exT)] 0), (80, .t (.sl 7 (n.eqs.map equT))), (81, .i (n.eqs.map equT).length), (82, .i k)]) (fun k => [lookB es i ((k : Int) - 1)]) rfl (fun k hlt ha => ?_) (fun ha => ?_)
 ·have hx := at_equ hlt
  have g1 := firstE_at (f := (equE es)) hlt ha
  have g2 := firstE_next (f := (equE es)) hlt ha
  have hs := heq k _ (List.getElem_mem hlt)
  have g3 := firstI_at (f := equE es) hlt ha
  generalize n.eqs[k] = u at *
  unfold equC at hx hs
  repeat' (first | refine wkt ?_ | refine wka ?_ | refine wk ?_ | exact wkc | intro hc | refine wk2 ?_ ?_ | refine we hs ?_ ?_ | fail)
  all_goals first
   | (refine LoopK.nextN hlt (g2 hc) ?_ (by rw [show ((k + 1 : Nat) : Int) - 1 = k from by omega]); repeat' (first | exact trivial | refine And.intro rfl ?_ | fail))
   | ((repeat' (first | refine LoopK.panic ?_ | refine wk ?_ | fail)); apply retQ; (first | assumption | decide); (clear hs hi hd1 hd2 hd3 heq hau hex hx; grind); (clear hs hi hd1 hd2 hd3 heq hau hex hx; grind); exact rfl; exact rfl)
 have e1 := firstE_all ha
 clear hi hd1 hd2 hd3 heq
 refine wk ?_
 repeat' (first | refine wkt ?_ | refine wk ?_ | exact wkc | intro hc | refine wk2 ?_ ?_ | fail)
 refine TR.loopN n.autos.length (fun k => firstE (autoE es 3) (n.autos.take k) = 0) (fun k => [(0, .ref 0 0), (5, .cp [.s n.name, declsT n.ins, declsT n.outs, declsT n.locals, .sl 7 (n.eqs.map equT), .sl 1 (n.autos.map autoT), .sl 6 (n.assume.map exT), .sl 6 (n.ensure.map exT)] 0), (101, .t (.sl 1 (n.autos.map autoT))), (102, .i (n.autos.map autoT).length), (103, .i k)]) (fun k => [lookB es i (-1)]) rfl (fun k hlt ha => ?_) (fun ha => ?_)
 ·have hx := at_auto hlt
  have g1 := firstE_at (f := (autoE es 3)) hlt ha
  have g2 := firstE_next (f := (autoE es 3)) hlt ha
  have hs := hau _ (List.getElem_mem hlt)
  generalize n.autos[k] = u at *
  unfold autoC at hx hs
  repeat' (first | refine wkt ?_ | refine wk ?_ | exact wkc | intro hc | refine wk2 ?_ ?_ | refine we hs ?_ ?_ | fail)
  all_goals first
   | exact LoopK.nextN hlt (g2 hc)
   | ((repeat' (first | refine LoopK.panic ?_ | refine wk ?_ | fail)); apply retQ; (first | assumption | decide); (clear hs hau hex hx; grind); (clear hs hau hex hx; grind); exact rfl; exact rfl)
 have e2 := firstE_all ha
 clear hau
 refine wk ?_
 repeat' (first | refine wkt ?_ | refine wk ?_ | exact wkc | intro hc | refine wk2 ?_ ?_ | fail)
 refine TR.loopN n.assume.length (fun k => firstE (exprX es) (n.assume.take k) = 0) (fun k => [(0, .ref 0 0), (5, .cp [.s n.name, declsT n.ins, declsT n.outs, declsT n.locals, .sl 7 (n.eqs.map equT), .sl 1 (n.autos.map autoT), .sl 6 (n.assume.map exT), .sl 6 (n.ensure.map exT)] 0), (112, .t (.sl 6 (n.assume.map exT))), (113, .i (n.assume.map exT).length), (114, .i k)]) (fun k => [lookB es i (-1)]) rfl (fun k hlt ha => ?_) (fun ha => ?_)
 ·have hx := at_exT hlt
  have g1 := firstE_at (f := (exprX es)) hlt ha
  have g2 := firstE_next (f := (exprX es)) hlt ha
  have hs := exprX_sound es _ (hex _ (.inl (List.getElem_mem hlt)))
  rw [exT_eq] at hs
  generalize n.assume[k] = u at *
  unfold exC at hx hs
  have hr := right_sound es i (-1) (exprX es u)
  generalize exprX es u = xe at *
  repeat' (first | refine wkt ?_ | refine wk ?_ | exact wkc | intro hc | refine wk2 ?_ ?_ | refine wv hs ?_ | refine we hr ?_ ?_ | fail)
  all_goals first
   | exact LoopK.nextN hlt (g2 hc)
   | ((repeat' (first | refine LoopK.panic ?_ | refine wk ?_ | fail)); apply retQ; (first | assumption | decide); (clear hs hr hex hx; grind); (clear hs hr hex hx; grind); exact rfl; exact rfl)
 have e3 := firstE_all ha
 refine wk ?_
 repeat' (first | refine wkt ?_ | refine wk ?_ | exact wkc | intro hc | refine wk2 ?_ ?_ | fail)
 refine TR.loopN n.ensure.length (fun k => firstE (exprX es) (n.ensure.take k) = 0) (fun k => [(0, .ref 0 0), (5, .cp [.s n.name, declsT n.ins, declsT n.outs, declsT n.locals, .sl 7 (n.eqs.map equT), .sl 1 (n.autos.map autoT), .sl 6 (n.assume.map exT), .sl 6 (n.ensure.map exT)] 0), (128, .t (.sl 6 (n.ensure.map exT))), (129, .i (n.ensure.map exT).length), (130, .i k)]) (fun k => [lookB es i (-1)]) rfl (fun k hlt ha => ?_) (fun ha => ?_)
 ·have hx := at_exT hlt
  have g1 := firstE_at (f := (exprX es)) hlt ha
  have g2 := firstE_next (f := (exprX es)) hlt ha
  have hs := exprX_sound es _ (hex _ (.inr (List.getElem_mem hlt)))
  rw [exT_eq] at hs
  generalize n.ensure[k] = u at *
  unfold exC at hx hs
  have hr := right_sound es i (-1) (exprX es u)
  generalize exprX es u = xe at *
  repeat' (first | refine wkt ?_ | refine wk ?_ | exact wkc | intro hc | refine wk2 ?_ ?_ | refine wv hs ?_ | refine we hr ?_ ?_ | fail)
  all_goals first
   | exact LoopK.nextN hlt (g2 hc)
   | ((repeat' (first | refine LoopK.panic ?_ | refine wk ?_ | fail)); apply retQ; (first | assumption | decide); (clear hs hr hex hx; grind); (clear hs hr hex hx; grind); exact rfl; exact rfl)
 have e4 := firstE_all ha
 refine wk ?_
 repeat' (first | refine wkt ?_ | refine wk ?_ | exact wkc | intro hc | refine wk2 ?_ ?_ | fail)
 refine RetK.errN (vs := []) ?_ rfl (Le.refl _) rfl rfl rfl rfl rfl
 clear hex; grind
end Go.Proofs.YtonjiabmcbdhdaaGreat
