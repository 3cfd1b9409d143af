/-
  BlocksJoinSaid: part Obd of its proof.
-/
import Derived.Test.YtdkidgkiplcggaaObb
import Derived.Test.YtdkidgkiplcggaaObc
set_option linter.unusedVariables false
set_option linter.unusedSimpArgs false
set_option maxRecDepth 100000
section
open Go.Proofs Go Go.Am Go.Op Go.Am.Old
namespace Go.Proofs.Ytdkidgkiplcggaa.blocksJoin
open Go.Proofs.Ytdkidgkiplcggaa.d
open Go.ChangeShapes Go.WideShapes Go.ChangeAt Go.RowKit
theorem own:ownKnob Try.prog.godebug=none:=by kernel_rfl
theorem laid:laidOutB Try.prog=true:=by kernel_rfl
theorem lifted(os:Os)(started:os.Started)(H:Type)(enc:TypeId×Value→H):
  ReturnsInHanded {} Try.checked os 6 .any (Rows.blocksJoinSpec.pre6 enc Try.prog Try.f6 Rows.blocksJoinRow.domain false) (Rows.blocksJoinSpec.post enc Try.prog Try.f6 false true false false):=by
 refine returnsInHanded_of_change_sized (C:=Try.checked) own started (by kernel_rfl) Try.func6
  (ChangeSpec.witness6 (enc:=enc) (C:=Try.checked) false ⟨#[], #[.slice none 0 0, .slice none 0 0],[]⟩ 8 (by kernel_rfl) (by kernel_rfl) (by kernel_rfl) (by kernel_rfl)) ?_
 intro W base args ds gs before hval0 hW hcnd hsz _
 have hW':=hW
 obtain⟨p,q,hA0,hV,rfl,hfz,hnd⟩:=hW
 have hA:DataW.TrodAll enc Try.prog W 0 (fun _=>true) true Try.f6.params.toList args.toList ds p:=hA0
 rw[Try.params6]at hA
 obtain⟨v0,v1,d0,d1,p0,p1,rfl,rfl,rfl,h0,h1⟩:=trodAll_two hA
 obtain⟨x0,g0,q0⟩:=(b7o).argL (hval0 0 22 v0 (by kernel_rfl) rfl) Try.underlying22 h0 fun n hn=>of_decide_eq_true (List.all_eq_true.1 hsz n (DataW.weights_mem_each (j:=0) (t:=22) (d:=d0) (by kernel_rfl) rfl n hn))
 obtain⟨x1,g1,q1⟩:=(b7o).argL (hval0 1 22 v1 (by kernel_rfl) rfl) Try.underlying22 h1 fun n hn=>of_decide_eq_true (List.all_eq_true.1 hsz n (DataW.weights_mem_each (j:=1) (t:=22) (d:=d1) (by kernel_rfl) rfl n hn))
 refine(b8T (W:=W) (vs:= #[v0,v1]) (f:=6) (b0K g0.2 g1.2) (j6 (q0 _) (j6 (q1 _) u5))).mono fun e W' ⟨he,hg⟩=> ?_
 subst he
 exact⟨_,rfl,b6Y (b:=4) hW' rfl laid (of_decide_eq_true (by kernel_rfl)) Try.underlying4 (by kernel_rfl) rfl rfl rfl hg⟩
theorem over:Rows.blocksJoinRow.holds Try.pinned (OpenSpec.ofChange Rows.blocksJoinSpec):=
 OpenClaim.holds_of_wide 6 Try.f6 rfl rfl rfl rfl rfl rfl rfl ⟨rfl,rfl,rfl,rfl,rfl⟩ rfl rfl rfl rfl rfl (by kernel_rfl) Try.func6 (by kernel_rfl)
  (of_decide_eq_true (by kernel_rfl)) (by unfold Func.isWrapper;first|(rw[if_pos (by decide+kernel)];kernel_rfl)|(rw[if_neg (by decide+kernel)];exact⟨rfl,rfl⟩))
  (fun os started H enc _=>lifted os started H enc)
theorem proved:Rows.BlocksJoinSaid:=over
end Go.Proofs.Ytdkidgkiplcggaa.blocksJoin
end
