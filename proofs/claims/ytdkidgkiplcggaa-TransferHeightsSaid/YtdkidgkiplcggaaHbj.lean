/-
  TransferHeightsSaid: part Hbj of its proof.
-/
import Derived.Test.YtdkidgkiplcggaaHbh
import Derived.Test.YtdkidgkiplcggaaHbi
set_option linter.unusedVariables false
set_option linter.unusedSimpArgs false
set_option maxRecDepth 100000
section
open Go.Proofs Go Go.Am Go.Op Go.Am.Old
namespace Go.Proofs.Ytdkidgkiplcggaa.transferHeights
open Go.Proofs.Ytdkidgkiplcggaa.d
open Go.ChangeShapes Go.WideShapes Go.ChangeAt Go.RowKit
theorem own:ownKnob Try.prog.godebug=none:=by kernel_rfl
theorem laid:laidOutB Try.prog=true:=by kernel_rfl
theorem lifted(os:Os)(started:os.Started)(H:Type)(enc:TypeId×Value→H):
  ReturnsInHanded {} Try.checked os 9 .any (Rows.transferHeightsSpec.pre6 enc Try.prog Try.f9 Rows.transferHeightsRow.domain false) (Rows.transferHeightsSpec.post enc Try.prog Try.f9 false true false false):=by
 refine returnsInHanded_of_change_sized (C:=Try.checked) own started (by kernel_rfl) Try.func9
  (ChangeSpec.witness6 (enc:=enc) (C:=Try.checked) false ⟨#[], #[.agg #[.slice none 0 0, .slice none 0 0, .slice none 0 0], .int .i64 0, .int .i64 0, .agg #[.slice none 0 0, .slice none 0 0, .slice none 0 0, .slice none 0 0]],[]⟩ 8 (by kernel_rfl) (by kernel_rfl) (by kernel_rfl) (by kernel_rfl)) ?_
 intro W base args ds gs before hval0 hW hcnd hsz _
 have hW':=hW
 obtain⟨p,q,hA0,hV,rfl,hfz,hnd⟩:=hW
 have hA:DataW.TrodAll enc Try.prog W 0 (fun _=>true) true Try.f9.params.toList args.toList ds p:=hA0
 rw[Try.params9]at hA
 obtain⟨v0,v1,v2,v3,d0,d1,d2,d3,p0,p1,p2,p3,rfl,rfl,rfl,h0,h1,h2,h3⟩:=trodAll_four hA
 obtain⟨x0,g0,q0⟩:=(d6d).argA (hval0 0 54 v0 (by kernel_rfl) rfl) Try.underlying54 h0 fun n hn=>of_decide_eq_true (List.all_eq_true.1 hsz n (DataW.weights_mem_each (j:=0) (t:=54) (d:=d0) (by kernel_rfl) rfl n hn))
 obtain⟨x1,g1,q1⟩:=(Rd.i64 Try.underlying3).argI (hval0 1 3 v1 (by kernel_rfl) rfl) Try.underlying3 h1 fun n hn=>of_decide_eq_true (List.all_eq_true.1 hsz n (DataW.weights_mem_each (j:=1) (t:=3) (d:=d1) (by kernel_rfl) rfl n hn))
 obtain⟨x2,g2,q2⟩:=(Rd.i64 Try.underlying3).argI (hval0 2 3 v2 (by kernel_rfl) rfl) Try.underlying3 h2 fun n hn=>of_decide_eq_true (List.all_eq_true.1 hsz n (DataW.weights_mem_each (j:=2) (t:=3) (d:=d2) (by kernel_rfl) rfl n hn))
 obtain⟨x3,g3,q3⟩:=(Rd.array2 (s:=2) Try.underlying57 (by kernel_rfl) (by kernel_rfl) d5T).argR (hval0 3 57 v3 (by kernel_rfl) rfl) Try.underlying57 h3 fun n hn=>of_decide_eq_true (List.all_eq_true.1 hsz n (DataW.weights_mem_each (j:=3) (t:=57) (d:=d3) (by kernel_rfl) rfl n hn))
 refine(c7U (W:=W) (vs:= #[v0,v1,v2,v3]) (f:=9) (b1W g0 g1 g3.1.2.2 g3.2.2.2) (s7 (q0 _) (s7 (q1 _) (s7 (q2 _) (s7 (q3 _) C7))))).mono fun e W' ⟨he,hg⟩=> ?_
 subst he
 exact⟨_,rfl,c7f (b:=4) hW' rfl laid (of_decide_eq_true (by kernel_rfl)) Try.underlying4 (by kernel_rfl) rfl rfl rfl hg⟩
theorem over:Rows.transferHeightsRow.holds Try.pinned (OpenSpec.ofChange Rows.transferHeightsSpec):=
 OpenClaim.holds_of_wide 9 Try.f9 rfl rfl rfl rfl rfl rfl rfl ⟨rfl,rfl,rfl,rfl,rfl⟩ rfl rfl rfl rfl rfl (by kernel_rfl) Try.func9 (by kernel_rfl)
  (of_decide_eq_true (by kernel_rfl)) (by unfold Func.isWrapper;first|(rw[if_pos (by decide+kernel)];kernel_rfl)|(rw[if_neg (by decide+kernel)];exact⟨rfl,rfl⟩))
  (fun os started H enc _=>lifted os started H enc)
theorem proved:Rows.TransferHeightsSaid:=over
end Go.Proofs.Ytdkidgkiplcggaa.transferHeights
end
