/-
  ImageSpoiltSaid: part Pbj of its proof.
-/
import Derived.Test.YtchnpgddpaonhaaPbh
import Derived.Test.YtchnpgddpaonhaaPbi
set_option linter.unusedVariables false
set_option linter.unusedSimpArgs false
set_option maxRecDepth 100000
section
open Go.Proofs Go Go.Am Go.Op Go.Am.Old
namespace Go.Proofs.Ytchnpgddpaonhaa.imageSpoilt
open Go.Proofs.Ytchnpgddpaonhaa.d
open Go.ChangeShapes Go.WideShapes Go.ChangeAt Go.RowKit
theorem own:ownKnob Try.prog.godebug=none:=by kernel_rfl
theorem laid:laidOutB Try.prog=true:=by kernel_rfl
theorem lifted(os:Os)(started:os.Started)(H:Type)(enc:TypeId×Value→H):
  ReturnsInHanded {} Try.checked os 6 .any (Rows.imageSpoiltSpec.pre6 enc Try.prog Try.f6 Rows.imageSpoiltRow.domain false) (Rows.imageSpoiltSpec.post enc Try.prog Try.f6 false true false false):=by
 refine returnsInHanded_of_change_sized (C:=Try.checked) own started (by kernel_rfl) Try.func6
  (ChangeSpec.witness6 (enc:=enc) (C:=Try.checked) false ⟨#[], #[.agg #[.slice none 0 0, .slice none 0 0, .slice none 0 0], .int .i64 0, .int .u8 0],[]⟩ 8 (by kernel_rfl) (by kernel_rfl) (by kernel_rfl) (by kernel_rfl)) ?_
 intro W base args ds gs before hval0 hW hcnd hsz _
 have hW':=hW
 obtain⟨p,q,hA0,hV,rfl,hfz,hnd⟩:=hW
 have hA:DataW.TrodAll enc Try.prog W 0 (fun _=>true) true Try.f6.params.toList args.toList ds p:=hA0
 rw[Try.params6]at hA
 obtain⟨v0,v1,v2,d0,d1,d2,p0,p1,p2,rfl,rfl,rfl,h0,h1,h2⟩:=trodAll_three hA
 obtain⟨x0,g0,q0⟩:=(d5r).argA (hval0 0 26 v0 (by kernel_rfl) rfl) Try.underlying26 h0 fun n hn=>of_decide_eq_true (List.all_eq_true.1 hsz n (DataW.weights_mem_each (j:=0) (t:=26) (d:=d0) (by kernel_rfl) rfl n hn))
 obtain⟨x1,g1,q1⟩:=(Rd.i64 Try.underlying3).argI (hval0 1 3 v1 (by kernel_rfl) rfl) Try.underlying3 h1 fun n hn=>of_decide_eq_true (List.all_eq_true.1 hsz n (DataW.weights_mem_each (j:=1) (t:=3) (d:=d1) (by kernel_rfl) rfl n hn))
 obtain⟨x2,g2,q2⟩:=(Rd.u8 Try.underlying5).argI (hval0 2 5 v2 (by kernel_rfl) rfl) Try.underlying5 h2 fun n hn=>of_decide_eq_true (List.all_eq_true.1 hsz n (DataW.weights_mem_each (j:=2) (t:=5) (d:=d2) (by kernel_rfl) rfl n hn))
 refine(c7x (W:=W) (vs:= #[v0,v1,v2]) (f:=6) (b7g g0 g1 g2) (A2 (q0 _) (A2 (q1 _) (A2 (q2 _) G4)))).mono fun e W' ⟨he,hg⟩=> ?_
 subst he
 exact⟨_,rfl,c5Z (b:=4) hW' rfl laid (of_decide_eq_true (by kernel_rfl)) Try.underlying4 (by kernel_rfl) rfl rfl rfl hg⟩
theorem over:Rows.imageSpoiltRow.holds Try.pinned (OpenSpec.ofChange Rows.imageSpoiltSpec):=
 OpenClaim.holds_of_wide 6 Try.f6 rfl rfl rfl rfl rfl rfl rfl ⟨rfl,rfl,rfl,rfl,rfl⟩ rfl rfl rfl rfl rfl (by kernel_rfl) Try.func6 (by kernel_rfl)
  (of_decide_eq_true (by kernel_rfl)) (by unfold Func.isWrapper;first|(rw[if_pos (by decide+kernel)];kernel_rfl)|(rw[if_neg (by decide+kernel)];exact⟨rfl,rfl⟩))
  (fun os started H enc _=>lifted os started H enc)
theorem proved:Rows.ImageSpoiltSaid:=over
end Go.Proofs.Ytchnpgddpaonhaa.imageSpoilt
end
