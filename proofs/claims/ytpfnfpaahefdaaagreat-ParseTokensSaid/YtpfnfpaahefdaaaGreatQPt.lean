/-
  ParseTokens: a result depends only on the tokens, not on blanks and remarks.
  Conditions: none.
-/
import Derived.Test.YtpfnfpaahefdaaaGreatRows
import Derived.Test.YtpfnfpaahefdaaaGreatPk36
set_option linter.all false
namespace Go.Proofs.YtpfnfpaahefdaaaGreat
open Go Go.TL
theorem zgn{H:Type}(ds:List (DataW H))(ys:List T)(h:Fits Tryz.prog [9] ds ys):Sound Tryz.prog 4 (ys.map .t) [] (fun r H'=>r= .ret (.b true)/\H'=[]):=by
 obtain⟨l,ds',ys',hl,rfl,rfl,h'⟩:=zn2 h
 obtain⟨rfl,rfl⟩:=zn1 h'
 exact zi5 l
theorem zok:ownKnob Tryz.prog.godebug=none:=by kernel_rfl
set_option maxRecDepth 100000 in
theorem zeL (os:Os) (started:os.Started) (H:Type) (enc:TypeId×Value->H):
  ReturnsInHanded {} Tryz.checked os 4 .any (Rows.parseTokensSpec.pre6 enc Tryz.prog Tryz.f4 Rows.parseTokensRow.domain false) (Rows.parseTokensSpec.post enc Tryz.prog Tryz.f4 false true false false):=by
 refine returnsInHanded_of_change (C:=Tryz.checked) zok started (by kernel_rfl) Tryz.func4
  (ChangeSpec.witness6 (enc:=enc) (C:=Tryz.checked) (s:=Rows.parseTokensSpec) false ⟨#[],#[.string ⟨#[]⟩],[]⟩ 8 (by kernel_rfl) (by kernel_rfl) (by kernel_rfl) (by kernel_rfl)) ?_
 intro W base args ds gs before hval hW _ _
 exact ziB (k:=fun _=>True) (l:=[9]) rfl (by kernel_rfl) (show Tryz.prog.underlying 4=some .bool from Tryz.underlying4) (by kernel_rfl) (by kernel_rfl) (by kernel_rfl) (by kernel_rfl) (by kernel_rfl) (fun ds h=>by match ds,h with|[d],_=>exact⟨rfl,rfl,rfl⟩)
  (fun ds ys hf _=>zgn ds ys hf) W base args ds gs before hval hW trivial
theorem parseTokens_holds:Rows.ParseTokensSaid:=
 OpenClaim.holds_of_wide 4 Tryz.f4 rfl rfl rfl rfl rfl rfl rfl ⟨rfl,rfl,rfl,rfl,rfl⟩ rfl rfl rfl rfl rfl (by kernel_rfl) Tryz.func4 (by kernel_rfl)
  (of_decide_eq_true (by kernel_rfl)) (by unfold Func.isWrapper;first|(rw[if_pos (by decide +kernel)];kernel_rfl)|(rw[if_neg (by decide +kernel)];exact⟨rfl,rfl⟩))
  (fun os started H enc _=>zeL os started H enc)
#print axioms parseTokens_holds
end Go.Proofs.YtpfnfpaahefdaaaGreat
