/-
  TransferKnownSaid: part Kbj of its proof.
-/
import Derived.Test.YtdkidgkiplcggaaKbi
import Derived.Test.YtdkidgkiplcggaaKax
import Derived.Test.YtdkidgkiplcggaaRows
import Derived.Test.YtdkidgkiplcggaaKbe
set_option linter.unusedVariables false
set_option linter.unusedSimpArgs false
set_option maxRecDepth 100000
section
open Go.Proofs Go Go.Am Go.Op Go.Am.Old
namespace Go.Proofs.Ytdkidgkiplcggaa.transferKnown
open Go.Proofs.Ytdkidgkiplcggaa.d
open Go.ChangeShapes Go.WideShapes Go.ChangeAt Go.RowKit
theorem own:ownKnob Try.prog.godebug=none:=by kernel_rfl
theorem laid:laidOutB Try.prog=true:=by kernel_rfl
theorem lifted(os:Os)(started:os.Started)(H:Type)(enc:TypeId×Value→H):
  ReturnsInHanded {} Try.checked os 10 .any (Rows.transferKnownSpec.pre6 enc Try.prog Try.f10 Rows.transferKnownRow.domain false) (Rows.transferKnownSpec.post enc Try.prog Try.f10 false true false false):=by
 refine returnsInHanded_of_change_sized (C:=Try.checked) own started (by kernel_rfl) Try.func10
  (ChangeSpec.witness6 (enc:=enc) (C:=Try.checked) false ⟨#[], #[],[]⟩ 8 (by kernel_rfl) (by kernel_rfl) (by kernel_rfl) (by kernel_rfl)) ?_
 intro W base args ds gs before hval0 hW hcnd hsz _
 have hW':=hW
 obtain⟨p,q,hA0,hV,rfl,hfz,hnd⟩:=hW
 have hA:DataW.TrodAll enc Try.prog W 0 (fun _=>true) true Try.f10.params.toList args.toList ds p:=hA0
 rw[Try.params10]at hA
 obtain⟨rfl,rfl,rfl⟩:=trodAll_none hA
 refine(c8u (W:=W) (vs:= #[]) (f:=10) b4f D0).mono fun e W' ⟨he,hg⟩=> ?_
 subst he
 exact⟨_,rfl,c5P (b:=4) hW' rfl laid (of_decide_eq_true (by kernel_rfl)) Try.underlying4 (by kernel_rfl) rfl rfl rfl hg⟩
theorem over:Rows.transferKnownRow.holds Try.pinned (OpenSpec.ofChange Rows.transferKnownSpec):=
 OpenClaim.holds_of_wide 10 Try.f10 rfl rfl rfl rfl rfl rfl rfl ⟨rfl,rfl,rfl,rfl,rfl⟩ rfl rfl rfl rfl rfl (by kernel_rfl) Try.func10 (by kernel_rfl)
  (of_decide_eq_true (by kernel_rfl)) (by unfold Func.isWrapper;first|(rw[if_pos (by decide+kernel)];kernel_rfl)|(rw[if_neg (by decide+kernel)];exact⟨rfl,rfl⟩))
  (fun os started H enc _=>lifted os started H enc)
theorem proved:Rows.TransferKnownSaid:=over
end Go.Proofs.Ytdkidgkiplcggaa.transferKnown
end
