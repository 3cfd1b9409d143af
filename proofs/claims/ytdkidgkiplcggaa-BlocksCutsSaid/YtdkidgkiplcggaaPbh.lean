/-
  BlocksCutsSaid: part Pbh of its proof.
-/
import Derived.Test.YtdkidgkiplcggaaPbf
import Derived.Test.YtdkidgkiplcggaaPbg
set_option linter.unusedVariables false
set_option linter.unusedSimpArgs false
set_option maxRecDepth 100000
section
open Go.Proofs Go Go.Am Go.Op Go.Am.Old
namespace Go.Proofs.Ytdkidgkiplcggaa.blocksCuts
open Go.Proofs.Ytdkidgkiplcggaa.d
open Go.ChangeShapes Go.WideShapes Go.ChangeAt Go.RowKit
theorem own:ownKnob Try.prog.godebug=none:=by kernel_rfl
theorem laid:laidOutB Try.prog=true:=by kernel_rfl
theorem lifted(os:Os)(started:os.Started)(H:Type)(enc:TypeId×Value→H):
  ReturnsInHanded {} Try.checked os 3 .any (Rows.blocksCutsSpec.pre6 enc Try.prog Try.f3 Rows.blocksCutsRow.domain false) (Rows.blocksCutsSpec.post enc Try.prog Try.f3 false true false false):=by
 refine returnsInHanded_of_change_sized (C:=Try.checked) own started (by kernel_rfl) Try.func3
  (ChangeSpec.witness6 (enc:=enc) (C:=Try.checked) false ⟨#[], #[.slice none 0 0],[]⟩ 8 (by kernel_rfl) (by kernel_rfl) (by kernel_rfl) (by kernel_rfl)) ?_
 intro W base args ds gs before hval0 hW hcnd hsz _
 have hW':=hW
 obtain⟨p,q,hA0,hV,rfl,hfz,hnd⟩:=hW
 have hA:DataW.TrodAll enc Try.prog W 0 (fun _=>true) true Try.f3.params.toList args.toList ds p:=hA0
 rw[Try.params3]at hA
 obtain⟨v0,d0,rfl,rfl,h0⟩:=trodAll_one hA
 obtain⟨x0,g0,q0⟩:=(c6L).argL (hval0 0 22 v0 (by kernel_rfl) rfl) Try.underlying22 h0 fun n hn=>of_decide_eq_true (List.all_eq_true.1 hsz n (DataW.weights_mem_each (j:=0) (t:=22) (d:=d0) (by kernel_rfl) rfl n hn))
 refine(c2V (W:=W) (vs:= #[v0]) (f:=3) (b4z g0.2 g0.1) (q9 (q0 _) A7)).mono fun e W' ⟨he,hg⟩=> ?_
 subst he
 exact⟨_,rfl,c2I (b:=4) hW' rfl laid (of_decide_eq_true (by kernel_rfl)) Try.underlying4 (by kernel_rfl) rfl rfl rfl hg⟩
theorem over:Rows.blocksCutsRow.holds Try.pinned (OpenSpec.ofChange Rows.blocksCutsSpec):=
 OpenClaim.holds_of_wide 3 Try.f3 rfl rfl rfl rfl rfl rfl rfl ⟨rfl,rfl,rfl,rfl,rfl⟩ rfl rfl rfl rfl rfl (by kernel_rfl) Try.func3 (by kernel_rfl)
  (of_decide_eq_true (by kernel_rfl)) (by unfold Func.isWrapper;first|(rw[if_pos (by decide+kernel)];kernel_rfl)|(rw[if_neg (by decide+kernel)];exact⟨rfl,rfl⟩))
  (fun os started H enc _=>lifted os started H enc)
theorem proved:Rows.BlocksCutsSaid:=over
end Go.Proofs.Ytdkidgkiplcggaa.blocksCuts
end
