/-
  ParseWell: a program that is read is well-formed, and places are within the text.
  Conditions: none.
-/
import Derived.Test.YtpfnfpaahefdaaaGreatRows
import Derived.Test.YtpfnfpaahefdaaaGreatPk38
set_option linter.all false
namespace Go.Proofs.YtpfnfpaahefdaaaGreat
open Go Go.TL
theorem zg9{H:Type}(ds:List (DataW H))(ys:List T)(h:Fits Tryz.prog [9] ds ys):Sound Tryz.prog 3 (ys.map .t) [] (fun r H'=>r= .ret (.b true)/\H'=[]):=by
 obtain⟨l,ds',ys',hl,rfl,rfl,h'⟩:=zm1 h
 obtain⟨rfl,rfl⟩:=zm0 h'
 exact zk0 l (qbg hl (by decide))
theorem znj:ownKnob Tryz.prog.godebug=none:=by kernel_rfl
set_option maxRecDepth 100000 in
theorem ze4 (os:Os) (started:os.Started) (H:Type) (enc:TypeId×Value->H):
  ReturnsInHanded {} Tryz.checked os 3 .any (Rows.parseWellSpec.pre6 enc Tryz.prog Tryz.f3 Rows.parseWellRow.domain false) (Rows.parseWellSpec.post enc Tryz.prog Tryz.f3 false true false false):=by
 refine returnsInHanded_of_change (C:=Tryz.checked) znj started (by kernel_rfl) Tryz.func3
  (ChangeSpec.witness6 (enc:=enc) (C:=Tryz.checked) (s:=Rows.parseWellSpec) false ⟨#[],#[.string ⟨#[]⟩],[]⟩ 8 (by kernel_rfl) (by kernel_rfl) (by kernel_rfl) (by kernel_rfl)) ?_
 intro W base args ds gs before hval hW _ _
 exact zhW (k:=fun _=>True) (l:=[9]) rfl (by kernel_rfl) (show Tryz.prog.underlying 4=some .bool from Tryz.underlying4) (by kernel_rfl) (by kernel_rfl) (by kernel_rfl) (by kernel_rfl) (by kernel_rfl) (fun ds h=>by match ds,h with|[d],_=>exact⟨rfl,rfl,rfl⟩)
  (fun ds ys hf _=>zg9 ds ys hf) W base args ds gs before hval hW trivial
theorem parseWell_holds:Rows.ParseWellSaid:=
 OpenClaim.holds_of_wide 3 Tryz.f3 rfl rfl rfl rfl rfl rfl rfl ⟨rfl,rfl,rfl,rfl,rfl⟩ rfl rfl rfl rfl rfl (by kernel_rfl) Tryz.func3 (by kernel_rfl)
  (of_decide_eq_true (by kernel_rfl)) (by unfold Func.isWrapper;first|(rw[if_pos (by decide +kernel)];kernel_rfl)|(rw[if_neg (by decide +kernel)];exact⟨rfl,rfl⟩))
  (fun os started H enc _=>ze4 os started H enc)
#print axioms parseWell_holds
end Go.Proofs.YtpfnfpaahefdaaaGreat
