/-
  TransferRisesSaid: part Qbj of its proof.
-/
import Derived.Test.YtdkidgkiplcggaaGreatQbi
set_option linter.unusedVariables false
set_option linter.unusedSimpArgs false
set_option maxRecDepth 100000
section
open Go.Proofs Go Go.Am Go.Op Go.Am.Old
namespace Go.Proofs.YtdkidgkiplcggaaGreat.transferRises
open Go.Proofs.YtdkidgkiplcggaaGreat.d
open Go.ChangeShapes Go.WideShapes Go.ChangeAt Go.RowKit
theorem own:ownKnob Tryz.prog.godebug=none:=by kernel_rfl
theorem laid:laidOutB Tryz.prog=true:=by kernel_rfl
theorem lifted(os:Os)(started:os.Started)(H:Type)(enc:TypeId×Value→H):
  ReturnsInHanded {} Tryz.checked os 4 .any (Rows.transferRisesSpec.pre6 enc Tryz.prog Tryz.f4 Rows.transferRisesRow.domain false) (Rows.transferRisesSpec.post enc Tryz.prog Tryz.f4 false true false false):=by
 refine returnsInHanded_of_change_sized (C:=Tryz.checked) own started (by kernel_rfl) Tryz.func4
  (ChangeSpec.witness6 (enc:=enc) (C:=Tryz.checked) false ⟨#[], #[.agg #[.slice none 0 0, .slice none 0 0, .slice none 0 0], .int .i64 0, .int .i64 0, .agg #[.slice none 0 0, .slice none 0 0, .slice none 0 0, .slice none 0 0]],[]⟩ 8 (by kernel_rfl) (by kernel_rfl) (by kernel_rfl) (by kernel_rfl)) ?_
 intro W base args ds gs before hval0 hW hcnd hsz _
 have hW':=hW
 obtain⟨p,q,hA0,hV,rfl,hfz,hnd⟩:=hW
 have hA:DataW.TrodAll enc Tryz.prog W 0 (fun _=>true) true Tryz.f4.params.toList args.toList ds p:=hA0
 rw[Tryz.params4]at hA
 obtain⟨v0,v1,v2,v3,d0,d1,d2,d3,p0,p1,p2,p3,rfl,rfl,rfl,h0,h1,h2,h3⟩:=trodAll_four hA
 obtain⟨x0,g0,q0⟩:=(d8d).argA (hval0 0 26 v0 (by kernel_rfl) rfl) Tryz.underlying26 h0 fun n hn=>of_decide_eq_true (List.all_eq_true.1 hsz n (DataW.weights_mem_each (j:=0) (t:=26) (d:=d0) (by kernel_rfl) rfl n hn))
 obtain⟨x1,g1,q1⟩:=(Rd.i64 Tryz.underlying3).argI (hval0 1 3 v1 (by kernel_rfl) rfl) Tryz.underlying3 h1 fun n hn=>of_decide_eq_true (List.all_eq_true.1 hsz n (DataW.weights_mem_each (j:=1) (t:=3) (d:=d1) (by kernel_rfl) rfl n hn))
 obtain⟨x2,g2,q2⟩:=(Rd.i64 Tryz.underlying3).argI (hval0 2 3 v2 (by kernel_rfl) rfl) Tryz.underlying3 h2 fun n hn=>of_decide_eq_true (List.all_eq_true.1 hsz n (DataW.weights_mem_each (j:=2) (t:=3) (d:=d2) (by kernel_rfl) rfl n hn))
 obtain⟨x3,g3,q3⟩:=(Rd.array2 (s:=2) Tryz.underlying47 (by kernel_rfl) (by kernel_rfl) d8g).argR (hval0 3 47 v3 (by kernel_rfl) rfl) Tryz.underlying47 h3 fun n hn=>of_decide_eq_true (List.all_eq_true.1 hsz n (DataW.weights_mem_each (j:=3) (t:=47) (d:=d3) (by kernel_rfl) rfl n hn))
 refine(d0z (W:=W) (vs:= #[v0,v1,v2,v3]) (f:=4) (b5V g0 g1 g3.1.1 g3.1.2.1 g3.1.2.2) (s9 (q0 _) (s9 (q1 _) (s9 (q2 _) (s9 (q3 _) D6))))).mono fun e W' ⟨he,hg⟩=> ?_
 subst he
 exact⟨_,rfl,c8x (b:=4) hW' rfl laid (of_decide_eq_true (by kernel_rfl)) Tryz.underlying4 (by kernel_rfl) rfl rfl rfl hg⟩
theorem over:Rows.transferRisesRow.holds Tryz.pinned (OpenSpec.ofChange Rows.transferRisesSpec):=
 OpenClaim.holds_of_wide 4 Tryz.f4 rfl rfl rfl rfl rfl rfl rfl ⟨rfl,rfl,rfl,rfl,rfl⟩ rfl rfl rfl rfl rfl (by kernel_rfl) Tryz.func4 (by kernel_rfl)
  (of_decide_eq_true (by kernel_rfl)) (by unfold Func.isWrapper;first|(rw[if_pos (by decide+kernel)];kernel_rfl)|(rw[if_neg (by decide+kernel)];exact⟨rfl,rfl⟩))
  (fun os started H enc _=>lifted os started H enc)
theorem proved:Rows.TransferRisesSaid:=over
end Go.Proofs.YtdkidgkiplcggaaGreat.transferRises
end
