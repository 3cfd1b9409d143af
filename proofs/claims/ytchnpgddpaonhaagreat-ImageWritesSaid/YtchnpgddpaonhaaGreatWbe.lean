/- A part of the proof of ImageWrites. -/
import Derived.Test.YtchnpgddpaonhaaGreatWbd
import Derived.Test.YtchnpgddpaonhaaGreatWau
import Derived.Test.YtchnpgddpaonhaaGreatRows
set_option linter.unusedVariables false
set_option linter.unusedSimpArgs false
set_option maxRecDepth 100000
section
open Go.Proofs Go Go.Am Go.Op Go.Am.Old
namespace Go.Proofs.YtchnpgddpaonhaaGreat.d
instance:Inhabited Ty:=⟨⟨0,[],[],0,0⟩⟩
instance:Inhabited Ro:=⟨⟨[],[],[],0,0,[]⟩⟩
section
variable{H:Type}{enc:TypeId×Value→H}{W:World}
abbrev RdP(enc:TypeId×Value→H)(W:World)(t:TypeId){α:Type}(row:α→List D)(a6k:α→Prop):Prop:=Rd enc Tryz.prog W t row a6k
theorem d6i:RdP enc W 48 (fun l:List Int=>[iD l]) (fun l=>l.length<2^47∧∀n∈l,I64 n):=
 (Rd.slice (sz:=1) Tryz.underlying48 (by kernel_rfl) (by decide) (b:=8) (by kernel_rfl) (fun _=>rfl) (Rd.i64 Tryz.underlying3)).map id (fun l=>by simp[iD,iC,y9,Function.comp_def]) fun l h=>⟨by have:=h.1;simp only[id]at*;omega,h.2⟩
theorem d9a:RdP enc W 30 (fun l:List Int=>[bD l]) (fun l=>l.length<2^47∧∀n∈l,Y9 n):=
 (Rd.slice (sz:=1) Tryz.underlying30 (by kernel_rfl) (by decide) (b:=1) (by kernel_rfl) (fun _=>rfl) (Rd.u8 Tryz.underlying5)).map id (fun l=>by simp[bD,y9,Function.comp_def]) fun l h=>⟨by have:=h.1;simp only[id]at*;omega,h.2⟩
theorem e1b:RdP enc W 47 O1 (fun f=>f.1.length<2^47∧I64 f.2):=
 (Rd.struct Tryz.underlying47 (by kernel_rfl) (.cons rfl (s:=1) (by kernel_rfl) (Rd.str Tryz.underlying9) (.cons rfl (s:=1) (by kernel_rfl) (Rd.i64 Tryz.underlying3) .nil))).map (fun p=>(p.1,p.2.1)) (fun _=>rfl) fun p h=>⟨h.1,h.2.1⟩
theorem d9N:RdP enc W 43 (fun l=>[O9 l]) (fun l=>l.length<2^47∧∀f∈l,f.1.length<2^47∧I64 f.2):=
 (Rd.slice (sz:=2) Tryz.underlying43 (by kernel_rfl) (by decide) (b:=24) (by kernel_rfl) (fun _=>rfl) e1b).map id (fun _=>rfl) fun l h=>⟨by have:=h.1;simp only[id]at*;omega,h.2⟩
theorem e1Y:RdP enc W 45 B9 Ty.Ok:=
 (Rd.struct Tryz.underlying45 (by kernel_rfl) (.cons rfl (s:=1) (by kernel_rfl) (Rd.u8 Tryz.underlying5) (.cons rfl (s:=1) (by kernel_rfl) (Rd.str Tryz.underlying9) (.cons rfl (s:=1) (by kernel_rfl) d9N (.cons rfl (s:=1) (by kernel_rfl) (Rd.i64 Tryz.underlying3) (.cons rfl (s:=1) (by kernel_rfl) (Rd.i64 Tryz.underlying3) .nil)))))).map
  (fun p=>(⟨p.1,p.2.1,p.2.2.1,p.2.2.2.1,p.2.2.2.2.1⟩:Ty)) (fun _=>rfl) fun p h=>⟨h.1,h.2.1,h.2.2.1.1,h.2.2.1.2,h.2.2.2.1,h.2.2.2.2.1⟩
theorem e0L:RdP enc W 22 (fun l=>[b1E l]) (fun l=>l.length<2^47∧∀t∈l,t.Ok):=
 (Rd.slice (sz:=5) Tryz.underlying22 (by kernel_rfl) (by decide) (b:=64) (by kernel_rfl) (fun _=>rfl) e1Y).map id (fun _=>rfl) fun l h=>⟨by have:=h.1;simp only[id]at*;omega,h.2⟩
theorem e0S:RdP enc W 23 (fun l=>[a6A l]) (fun l=>l.length<2^47∧∀t∈l,t.length<2^47):=
 (Rd.slice (sz:=1) Tryz.underlying23 (by kernel_rfl) (by decide) (b:=16) (by kernel_rfl) (fun _=>rfl) (Rd.str Tryz.underlying9)).map id (fun l=>by simp[a6A,y9,Function.comp_def]) fun l h=>⟨by have:=h.1;simp only[id]at*;omega,h.2⟩
theorem e2J:RdP enc W 50 F9 Ro.Ok:=
 (Rd.struct Tryz.underlying50 (by kernel_rfl) (.cons rfl (s:=1) (by kernel_rfl) (Rd.str Tryz.underlying9) (.cons rfl (s:=1) (by kernel_rfl) d6i (.cons rfl (s:=1) (by kernel_rfl) d6i (.cons rfl (s:=1) (by kernel_rfl) (Rd.i64 Tryz.underlying3) (.cons rfl (s:=1) (by kernel_rfl) (Rd.i64 Tryz.underlying3) (.cons rfl (s:=1) (by kernel_rfl) d9a .nil))))))).map
  (fun p=>(⟨p.1,p.2.1,p.2.2.1,p.2.2.2.1,p.2.2.2.2.1,p.2.2.2.2.2.1⟩:Ro)) (fun _=>rfl) fun p h=>⟨h.1,h.2.1.1,h.2.2.1.1,fun n hn=>by
   rcases List.mem_append.1 hn with hn|hn
   ·exact h.2.1.2 n hn
   ·exact h.2.2.1.2 n hn,h.2.2.2.1,h.2.2.2.2.1,h.2.2.2.2.2.1.1,h.2.2.2.2.2.1.2⟩
theorem e1I:RdP enc W 24 (fun l=>[b1r l]) (fun l=>l.length<2^47∧∀t∈l,t.Ok):=
 (Rd.slice (sz:=6) Tryz.underlying24 (by kernel_rfl) (by decide) (b:=104) (by kernel_rfl) (fun _=>rfl) e2J).map id (fun _=>rfl) fun l h=>⟨by have:=h.1;simp only[id]at*;omega,h.2⟩
theorem e2H:RdP enc W 26 F8 Mo.Ok:=
 (Rd.struct Tryz.underlying26 (by kernel_rfl) (.cons rfl (s:=1) (by kernel_rfl) e0L (.cons rfl (s:=1) (by kernel_rfl) e0S (.cons rfl (s:=1) (by kernel_rfl) e1I .nil)))).map
  (fun p=>(⟨p.1,p.2.1,p.2.2.1⟩:Mo)) (fun _=>rfl) fun p h=>⟨h.1.1,h.2.1.1,h.2.2.1.1,h.1.2,h.2.1.2,h.2.2.1.2⟩
end
end Go.Proofs.YtchnpgddpaonhaaGreat.d
end
