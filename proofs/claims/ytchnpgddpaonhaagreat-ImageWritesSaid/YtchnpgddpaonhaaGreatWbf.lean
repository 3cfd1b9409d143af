/- ImageWrites: of any module: may it be, its bytes; it stays, what is answered is the callers. No condition. -/
import Derived.Test.YtchnpgddpaonhaaGreatWbd
import Derived.Test.YtchnpgddpaonhaaGreatWbe
set_option linter.unusedVariables false
set_option linter.unusedSimpArgs false
set_option maxRecDepth 100000
section
open Go.Proofs Go Go.Am Go.Op Go.Am.Old
namespace Go.Proofs.YtchnpgddpaonhaaGreat.imageWrites
open Go.Proofs.YtchnpgddpaonhaaGreat.d
open Go.ChangeShapes Go.WideShapes Go.ChangeAt Go.RowKit
theorem own:ownKnob Tryz.prog.godebug=none:=by kernel_rfl
theorem laid:laidOutB Tryz.prog=true:=by kernel_rfl
theorem lifted(os:Os)(started:os.Started)(H:Type)(enc:TypeId×Value→H):
  ReturnsInHanded {} Tryz.checked os 3 .any (Rows.imageWritesSpec.pre6 enc Tryz.prog Tryz.f3 Rows.imageWritesRow.domain false) (Rows.imageWritesSpec.post enc Tryz.prog Tryz.f3 false true false false):=by
 refine returnsInHanded_of_change_sized (C:=Tryz.checked) own started (by kernel_rfl) Tryz.func3
  (ChangeSpec.witness6 (enc:=enc) (C:=Tryz.checked) false ⟨#[], #[.agg #[.slice none 0 0, .slice none 0 0, .slice none 0 0]],[]⟩ 8 (by kernel_rfl) (by kernel_rfl) (by kernel_rfl) (by kernel_rfl)) ?_
 intro W base args ds gs before hval0 hW hcnd hsz _
 have hW':=hW
 obtain⟨p,q,hA0,hV,rfl,hfz,hnd⟩:=hW
 have hA:DataW.TrodAll enc Tryz.prog W 0 (fun _=>true) true Tryz.f3.params.toList args.toList ds p:=hA0
 rw[Tryz.params3]at hA
 obtain⟨v0,d0,rfl,rfl,h0⟩:=trodAll_one hA
 obtain⟨x0,g0,q0⟩:=(e2H).argA (hval0 0 26 v0 (by kernel_rfl) rfl) Tryz.underlying26 h0 fun n hn=>of_decide_eq_true (List.all_eq_true.1 hsz n (DataW.weights_mem_each (j:=0) (t:=26) (d:=d0) (by kernel_rfl) rfl n hn))
 refine(d5j (W:=W) (vs:= #[v0]) (f:=3) (c2Y g0) (D4 (q0 _) K4)).mono fun e W' ⟨he,hg⟩=> ?_
 subst he
 exact⟨_,rfl,d3w (b:=4) hW' rfl laid (of_decide_eq_true (by kernel_rfl)) Tryz.underlying4 (by kernel_rfl) rfl rfl rfl hg⟩
theorem over:Rows.imageWritesRow.holds Tryz.pinned (OpenSpec.ofChange Rows.imageWritesSpec):=
 OpenClaim.holds_of_wide 3 Tryz.f3 rfl rfl rfl rfl rfl rfl rfl ⟨rfl,rfl,rfl,rfl,rfl⟩ rfl rfl rfl rfl rfl (by kernel_rfl) Tryz.func3 (by kernel_rfl)
  (of_decide_eq_true (by kernel_rfl)) (by unfold Func.isWrapper;first|(rw[if_pos (by decide+kernel)];kernel_rfl)|(rw[if_neg (by decide+kernel)];exact⟨rfl,rfl⟩))
  (fun os started H enc _=>lifted os started H enc)
theorem proved:Rows.ImageWritesSaid:=over
end Go.Proofs.YtchnpgddpaonhaaGreat.imageWrites
end
