/-
  BlocksTileSaid: part Nbc of its proof.
-/
import Derived.Test.YtdkidgkiplcggaaNbb
set_option linter.unusedVariables false
set_option linter.unusedSimpArgs false
set_option maxRecDepth 100000
section
open Go.Proofs Go Go.Am Go.Op Go.Am.Old
namespace Go.Proofs.Ytdkidgkiplcggaa.blocksTile
open Go.Proofs.Ytdkidgkiplcggaa.d
open Go.ChangeShapes Go.WideShapes Go.ChangeAt Go.RowKit
theorem own:ownKnob Try.prog.godebug=none:=by kernel_rfl
theorem laid:laidOutB Try.prog=true:=by kernel_rfl
theorem lifted(os:Os)(started:os.Started)(H:Type)(enc:TypeId×Value→H):
  ReturnsInHanded {} Try.checked os 5 .any (Rows.blocksTileSpec.pre6 enc Try.prog Try.f5 Rows.blocksTileRow.domain false) (Rows.blocksTileSpec.post enc Try.prog Try.f5 false true false false):=by
 refine returnsInHanded_of_change_sized (C:=Try.checked) own started (by kernel_rfl) Try.func5
  (ChangeSpec.witness6 (enc:=enc) (C:=Try.checked) false ⟨#[], #[.slice none 0 0],[]⟩ 8 (by kernel_rfl) (by kernel_rfl) (by kernel_rfl) (by kernel_rfl)) ?_
 intro W base args ds gs before hval0 hW hcnd hsz _
 have hW':=hW
 obtain⟨p,q,hA0,hV,rfl,hfz,hnd⟩:=hW
 have hA:DataW.TrodAll enc Try.prog W 0 (fun _=>true) true Try.f5.params.toList args.toList ds p:=hA0
 rw[Try.params5]at hA
 obtain⟨v0,d0,rfl,rfl,h0⟩:=trodAll_one hA
 obtain⟨x0,g0,q0⟩:=(c1l).argL (hval0 0 22 v0 (by kernel_rfl) rfl) Try.underlying22 h0 fun n hn=>of_decide_eq_true (List.all_eq_true.1 hsz n (DataW.weights_mem_each (j:=0) (t:=22) (d:=d0) (by kernel_rfl) rfl n hn))
 refine(b8i (W:=W) (vs:= #[v0]) (f:=5) (b0t g0.2) (l7 (q0 _) u6)).mono fun e W' ⟨he,hg⟩=> ?_
 subst he
 exact⟨_,rfl,b6m (b:=4) hW' rfl laid (of_decide_eq_true (by kernel_rfl)) Try.underlying4 (by kernel_rfl) rfl rfl rfl hg⟩
theorem over:Rows.blocksTileRow.holds Try.pinned (OpenSpec.ofChange Rows.blocksTileSpec):=
 OpenClaim.holds_of_wide 5 Try.f5 rfl rfl rfl rfl rfl rfl rfl ⟨rfl,rfl,rfl,rfl,rfl⟩ rfl rfl rfl rfl rfl (by kernel_rfl) Try.func5 (by kernel_rfl)
  (of_decide_eq_true (by kernel_rfl)) (by unfold Func.isWrapper;first|(rw[if_pos (by decide+kernel)];kernel_rfl)|(rw[if_neg (by decide+kernel)];exact⟨rfl,rfl⟩))
  (fun os started H enc _=>lifted os started H enc)
theorem proved:Rows.BlocksTileSaid:=over
end Go.Proofs.Ytdkidgkiplcggaa.blocksTile
end
