/-
  BlocksCutsSaid: part Pay of its proof.
-/
import Derived.Test.YtdkidgkiplcggaaPax
set_option linter.unusedVariables false
set_option linter.unusedSimpArgs false
set_option maxRecDepth 100000
section
open Go.Proofs Go Go.Am Go.Op
namespace Go.Proofs.Ytdkidgkiplcggaa.d
set_option linter.unusedSectionVars false
theorem a8S{y:In}(ha:y.arms.length≤65535)(n:Int):(p4 y n).length≤65540:=by
 have hr:∀l:List Int,(X8 l).length≤l.length:=fun l=>by
  have:=a1G (srt l);rw[a6d]at this;exact this
 unfold p4
 split
 ·simp
 ·split
  ·simp
  ·refine Nat.le_trans (hr _) ?_
   split
   ·simp
   ·split
    ·simp;omega
    ·simp
section
variable{E:g8}{w0:j0}
theorem Own.fin{S0 S:b5}{d:D}{l:List Int}(h:Own S0 d l S){Q:D→b5→Prop}(hq:b9 E Q (iD l) S0):b9 E Q d S:=by
 rcases h with ⟨rfl,rfl,rfl⟩|⟨k,acs,ex,h,rfl,rfl⟩
 ·exact b9.nil hq
 ·refine b9.freeze (b5.set_same _ _ _) rfl (by rw[m8];omega) (Nat.le_refl _) ?_
  rw[b5.erase_set _ _ _ h,List.drop_zero,List.take_of_length_le (by rw[m8];exact Nat.le_refl _)]
  exact hq
theorem Sl.rows{S0 T:b5}{av:List Nat}{d:D}{l:List Int}(h:Sl S0 av d l T):((d= .nilSlc∧l=[])∨c9e d .nilSlc=some false)∧∀T',T.le T'→rowsS T' 1 d=some (iC l):=by
 rcases h with ⟨rfl,rfl⟩|⟨k,cap,ex,rows,acs,h0,h1,rfl,h2,h3,h4⟩
 ·exact⟨.inl ⟨rfl,rfl⟩,fun T' _=>rfl⟩
 ·refine⟨.inr rfl,fun T' hle=> ?_⟩
  simp only[rowsS,C1,hle _ _ h2]
  rw[if_pos ⟨by trivial,by trivial,by have:=a8Q h3;omega⟩,List.drop_zero,h3]
theorem c0m{S0 S1 S:b5}{d:D}{l:List Int}{av:List Nat}(h:Own S1 d l S)(hle:S0.le S1)(hav:∀j∈av,S1 j≠none):Sl S0 av d l S:=by
 rcases h with ⟨rfl,rfl,rfl⟩|⟨k,acs,ex,h,rfl,rfl⟩
 ·exact .inl ⟨rfl,rfl⟩
 ·exact .inr ⟨k,l.length,ex,iC l,acs,b5.none_of hle h,fun hm=>hav k hm h,rfl,b5.set_same _ _ _,by rw[List.take_of_length_le (by rw[m8];exact Nat.le_refl _)],Nat.le_refl _⟩
end
end Go.Proofs.Ytdkidgkiplcggaa.d
end
