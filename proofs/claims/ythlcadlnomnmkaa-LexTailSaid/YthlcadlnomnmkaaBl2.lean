/-
  strings.Builder: String, walked.
-/
import Derived.Test.YthlcadlnomnmkaaBl1
import Derived.RegionTactic
import Derived.WalkKit
namespace Go.Proofs.Ythlcadlnomnmkaa
open Go Go.TL Go.RowKit

set_option maxHeartbeats 1000000 in
set_option maxRecDepth 100000 in
theorem bString_some (b o g cap cells : Nat) (l : Str) (h0 : l ≠ []) (w : World) (hc : w.cell? ⟨b, o + 1, none⟩ = some (.slice (some ⟨g, 0, none⟩) l.length cap)) (hcap : l.length ≤ cap) (hcl : l.length ≤ cells) (hsh : w.shape? g = some (5, cells)) (h63 : l.length ≤ 9223372036854775807)
    (hcell : ∀ (j : Nat) x, l[j]? = some x → w.cell? ((⟨g, 0, none⟩ : Addr).add j) = some (.int .u8 x.toNat)) :
    Calls Try.prog 25 #[.pointer (some ⟨b, o, none⟩)] w fun e w' => e = .returned (.string ⟨l.toArray⟩) ∧ w' = w.drew.freeze ⟨g, 0, none⟩ l.length := by
  have hl0 : l.length ≠ 0 := by simpa using h0
  have c1 : w.drew.cell? ⟨b, o + 1, none⟩ = some (.slice (some ⟨g, 0, none⟩) l.length cap) := hc
  have hSD : (Builtin.unsafeSliceData_ #[43] 58 #[.slice (some ⟨g, 0, none⟩) l.length cap]).run Try.prog w.drew = .ok (.pointer (some ⟨g, 0, none⟩)) w.drew :=
    Lib.run_unsafeSliceData_row _ _ _ _ _ _ (by omega)
  have hUS : (Builtin.unsafeString_ #[58, 3] 9 #[.pointer (some ⟨g, 0, none⟩), .int .i64 l.length]).run Try.prog w.drew = .ok (.string ⟨l.toArray⟩) (w.drew.freeze ⟨g, 0, none⟩ l.length) :=
    Lib.run_unsafeString_row w.drew 58 3 9 5 (by kernel_rfl) (by kernel_rfl) g cells hsh l h0 hcl h63 hcell
  clear hc hsh hcell
  go_enter Try.func25, Try.ntmps25
  go_wp2
  go_region
  all_goals (go_wp2; go_ret; exact ⟨rfl, rfl⟩)

set_option maxHeartbeats 1000000 in
set_option maxRecDepth 100000 in
theorem bString_none (b o : Nat) (w : World) (c1 : w.drew.cell? ⟨b, o + 1, none⟩ = some (.slice none 0 0)) :
    Calls Try.prog 25 #[.pointer (some ⟨b, o, none⟩)] w fun e w' => e = .returned (.string ⟨#[]⟩) ∧ w' = w.drew := by
  have hSD : (Builtin.unsafeSliceData_ #[43] 58 #[.slice none 0 0]).run Try.prog w.drew = .ok (.pointer none) w.drew := Lib.run_unsafeSliceData_nil _ _ _ _ _
  have hUS : (Builtin.unsafeString_ #[58, 3] 9 #[.pointer none, .int .i64 0]).run Try.prog w.drew = .ok (.string ⟨#[]⟩) w.drew := Lib.run_unsafeString_none _ _ _ _ _
  go_enter Try.func25, Try.ntmps25
  go_wp2
  go_region
  all_goals (go_wp2; go_ret; exact ⟨rfl, rfl⟩)

set_option maxHeartbeats 1000000 in
set_option maxRecDepth 100000 in
theorem bString_zero (b o g cap : Nat) (hcap : 0 < cap) (w : World) (c1 : w.drew.cell? ⟨b, o + 1, none⟩ = some (.slice (some ⟨g, 0, none⟩) 0 cap)) :
    Calls Try.prog 25 #[.pointer (some ⟨b, o, none⟩)] w fun e w' => e = .returned (.string ⟨#[]⟩) ∧ w' = w.drew := by
  have hSD : (Builtin.unsafeSliceData_ #[43] 58 #[.slice (some ⟨g, 0, none⟩) 0 cap]).run Try.prog w.drew = .ok (.pointer (some ⟨g, 0, none⟩)) w.drew :=
    Lib.run_unsafeSliceData_row _ _ _ _ _ _ (by omega)
  have hUS : (Builtin.unsafeString_ #[58, 3] 9 #[.pointer (some ⟨g, 0, none⟩), .int .i64 0]).run Try.prog w.drew = .ok (.string ⟨#[]⟩) w.drew := Lib.run_unsafeString_none _ _ _ _ _
  go_enter Try.func25, Try.ntmps25
  go_wp2
  go_region
  all_goals (go_wp2; go_ret; exact ⟨rfl, rfl⟩)

theorem keeps_drew (w : World) : Keeps w w.drew := ⟨rfl, rfl, rfl, Nat.le_refl _, fun _ _ => rfl⟩

/-- String of a builder that lies in an owned block, at some offset. -/
theorem bString_sound (off : Nat) (cs : List SV) (l : Str) (hl : l.length ≤ 1000000000) (h1 : cs[off + 1]? = some (.rw 1 l.length)) :
    Sound Try.prog 25 [.ref 0 off] [.cells cs, .row 5 (bytesSV l)] (fun r H' => r = .ret (.s l) ∧ (H' = [.cells cs, .row 5 (bytesSV l)] ∨ H' = [.cells cs, .dead])) := by
  refine ⟨⟨_, Try.func25, by kernel_rfl, rfl⟩, fun m vs hH hm ha => ?_⟩
  obtain ⟨hs, ha⟩ := ha
  obtain ⟨x, rfl⟩ : ∃ x, vs = #[x] := by
    match vs, hs with
    | ⟨[x]⟩, _ => exact ⟨x, rfl⟩
  have hx := ha 0 _ x rfl rfl
  cases hx with
  | ref _ _ p hp hn =>
  have hH0 : m.H[0]? = some (.cells cs) := by rw [hH]; rfl
  have hH1 : m.H[1]? = some (.row 5 (bytesSV l)) := by rw [hH]; rfl
  obtain ⟨b1, b2, b3⟩ := hm.blk 0 p _ hp hH0
  obtain ⟨y, hy, _, hr⟩ := b3 _ _ h1
  cases hr with
  | rw _ _ _ p1 hp1 _ ho =>
  obtain ⟨_, hh⟩ := ho _ (by rw [hH1]; rfl)
  obtain ⟨ad, cap, rfl, hlc, hlo, hhi, had⟩ := hh (bytesSV_length l).symm
  obtain ⟨⟨_, r2, r3⟩, r4, r5⟩ := hm.blk 1 p1 _ hp1 hH1
  rw [bytesSV_length] at r2
  have same : ∀ (w' : World), w' = m.w.drew → l = [] → ∃ (m' : M) (r : Res), m'.w = w' ∧ Step m m' ∧ HRel m' ∧ ResRel m' r (.returned (.string ⟨#[]⟩)) ∧ (r = .ret (.s l) ∧ (m'.H = [.cells cs, .row 5 (bytesSV l)] ∨ m'.H = [.cells cs, .dead])) := by
    rintro w' rfl rfl
    obtain ⟨s, hm'⟩ := keep_ok hm (keeps_drew m.w)
    exact ⟨_, .ret (.s []), rfl, s, hm', .t _ _ (.v _), rfl, .inl hH⟩
  by_cases h0 : l = []
  · cases ad with
    | none =>
      simp only at had
      subst had
      subst h0
      refine Calls.mono (bString_none p.b (p.lo + off) m.w hy) ?_
      rintro e w' ⟨rfl, rfl⟩
      exact same _ rfl rfl
    | some a =>
      simp only at had
      obtain ⟨rfl, hc0⟩ := had
      subst h0
      refine Calls.mono (bString_zero p.b (p.lo + off) p1.b cap hc0 m.w hy) ?_
      rintro e w' ⟨rfl, rfl⟩
      exact same _ rfl rfl
  · have hpos : 0 < l.length := List.length_pos_iff.2 h0
    cases ad with
    | none =>
      simp only at had
      omega
    | some a =>
      simp only at had
      obtain ⟨rfl, hc0⟩ := had
      refine Calls.mono (bString_some p.b (p.lo + off) p1.b cap p1.hi l h0 m.w hy hlc (by omega) (r3 (by omega)) (by omega) (fun j c hj => ?_)) ?_
      · obtain ⟨z, z1, _, z2⟩ := r5 j (byteSV c) (by simp [bytesSV, hj])
        rw [addr_add, ← hlo, z1]
        cases z2
        rfl
      · rintro e w' ⟨rfl, rfl⟩
        obtain ⟨s, hm'⟩ := row_dead (w' := m.w.drew.freeze ⟨p1.b, 0, none⟩ l.length) (k := l.length) hm hp1 hH1 (by unfold World.freeze; split <;> rfl) (by unfold World.freeze; split <;> rfl) (by unfold World.freeze; split <;> rfl) (by unfold World.freeze; split <;> rfl) r2
        exact ⟨_, .ret (.s l), rfl, s, hm', .t _ _ (.v _), rfl, .inr (by show m.H.set 1 .dead = _; rw [hH]; rfl)⟩

end Go.Proofs.Ythlcadlnomnmkaa
