/-
  BlocksTileSaid: part Nai of its proof.
-/
import Derived.Test.YtdkidgkiplcggaaNah
set_option linter.unusedVariables false
set_option linter.unusedSimpArgs false
set_option maxRecDepth 100000
section
namespace Go.Am
section
variable(P:Program)(E:d6)
def l8(o:Oper):Nat:=match o.op with
 | .move _| .assign _| .pick .. | .build .. | .nilCheck _| .binOp .. | .unOp .. | .makeInterface .. | .makeFunc .. | .fieldAddr .. | .field .. | .indexAddr .. | .index .. | .typeAssert .. | .extract .. =>0
 | .load .. | .lookup .. | .slice .. =>1
 | .call c=>match c.callee with
  | .builtin .len=>1
  | .builtin .cap| .builtin .min| .builtin .max=>0
  |_=>2
 | .convert src dst _=>match P.underlying src,P.underlying dst with
  |some (.slice _),some .string=>1
  |some (.int _),some (.int _)=>0
  |some .string,some .string=>0
  |_,_=>2
 |_=>2
def b3B(r:Option P0):Option AV:=match r with
 |some (.val v _)=>some v
 |_=>none
def b7R(g:Option Bool)(r:Option AV):Option AV:=match g with
 |some true=>r
 |some false=>some o6
 |none=>none
def a6C(ops:Array Oper)(T:List AV)(H:AHeap)(o:Oper):Option AV:=b7R (M5 ops T o) (b3B (M7 P E T H o))
end
section
variable{P:Program}{E:d6}{w0:a2z}{ops:Array Oper}
theorem b0D{r:Option AV}{H H1:AHeap}{v:AV}(h:(r.map fun x=>P0.val x H)=some (.val v H1)):r=some v∧H1=H:=by
 cases r with
 |none=>cases h
 |some x=>cases h;exact⟨rfl,rfl⟩
theorem c0A{H:AHeap}{src dst:TypeId}{x v:AV}{H1:AHeap}(hk:l8 P ⟨none, .convert src dst (.tmp 0),0,"", #[],none⟩=0)(h:F0 P E H src dst x=some (v,H1)):H1=H∧∀H2,F0 P E H2 src dst x=some (v,H2):=by
 simp only[l8]at hk
 split at hk
 ·cases hk
 ·rename_i e1 e2
  unfold F0 at h ⊢
  rw[e1,e2]at h ⊢
  cases x<;>simp at h ⊢
  obtain⟨rfl,rfl⟩:=h
  simp
 ·rename_i e1 e2
  unfold F0 at h ⊢
  rw[e1,e2]at h ⊢
  cases x<;>simp at h ⊢
  obtain⟨rfl,rfl⟩:=h
  simp
 ·cases hk
theorem b6q{T:List AV}{H:AHeap}{o:Oper}(hk:l8 P o=0){v:AV}{H1:AHeap}(h:M7 P E T H o=some (.val v H1)):H1=H∧∀H2,M7 P E T H2 o=some (.val v H2):=by
 obtain⟨dst,op,type,pos,after,guard⟩:=o
 cases op<;>simp only[M7]at h ⊢
 case move x=>cases h;exact⟨rfl,fun _=>rfl⟩
 case assign x=>cases h;exact⟨rfl,fun _=>rfl⟩
 case pick c a b=>
  split at h
  ·cases h;exact⟨rfl,fun _=>rfl⟩
  ·cases h
 case build t ps=>obtain⟨e,rfl⟩:=b0D h;exact⟨rfl,fun _=>by rw[e];rfl⟩
 case nilCheck x=>
  split at h<;>first|cases h;done|skip
  ·cases h;exact⟨rfl,fun _=>rfl⟩
 case binOp op t x y yt=>
  split at h
  ·rename_i hg;obtain⟨e,rfl⟩:=b0D h;exact⟨rfl,fun _=>by rw[if_pos hg,e];rfl⟩
  ·cases h
 case unOp op t x=>obtain⟨e,rfl⟩:=b0D h;exact⟨rfl,fun _=>by rw[e];rfl⟩
 case makeInterface t x=>
  split at h
  ·cases h
  ·cases h;exact⟨rfl,fun _=>rfl⟩
  ·cases h
 case makeFunc fn a b=>cases h;exact⟨rfl,fun _=>rfl⟩
 case fieldAddr s x f=>obtain⟨e,rfl⟩:=b0D h;exact⟨rfl,fun _=>by rw[e];rfl⟩
 case field s x f=>obtain⟨e,rfl⟩:=b0D h;exact⟨rfl,fun _=>by rw[e];rfl⟩
 case indexAddr s x f=>obtain⟨e,rfl⟩:=b0D h;exact⟨rfl,fun _=>by rw[e];rfl⟩
 case index s x f=>obtain⟨e,rfl⟩:=b0D h;exact⟨rfl,fun _=>by rw[e];rfl⟩
 case typeAssert x t a ok=>obtain⟨e,rfl⟩:=b0D h;exact⟨rfl,fun _=>by rw[e];rfl⟩
 case extract t ix=>
  split at h
  ·obtain⟨e,rfl⟩:=b0D h;exact⟨rfl,fun _=>by rw[e];rfl⟩
  ·cases h
 case convert src dst x=>
  simp only[Option.map_eq_some_iff]at h
  obtain⟨⟨v1,H2⟩,h1,h2⟩:=h
  cases h2
  obtain⟨rfl,g⟩:=c0A (by exact hk) h1
  exact⟨rfl,fun H2=>by rw[g H2];rfl⟩
 case call c=>
  unfold K2 at h ⊢
  cases hc:c.callee with
  |value f=>simp only[l8,hc]at hk;cases hk
  |invoke r m=>simp only[l8,hc]at hk;cases hk
  |builtin b=>
   simp only[l8,hc]at hk
   simp only[hc]at h ⊢
   cases b<;>simp at hk
   case cap=>
    generalize c.args.toList.map (c8 T)=as at h ⊢
    generalize c.argTypes.toList=ts at h ⊢
    match as,ts,h with
    | [x],[t],h=>
     simp only[Option.map_eq_some_iff]at h ⊢
     obtain⟨n,h1,h2⟩:=h
     cases h2
     exact⟨rfl,fun H2=>⟨n,h1,rfl⟩⟩
   case min=>
    simp only[Option.map_eq_some_iff]at h ⊢
    obtain⟨n,h1,h2⟩:=h
    cases h2
    exact⟨rfl,fun H2=>⟨_,h1,rfl⟩⟩
   case max=>
    simp only[Option.map_eq_some_iff]at h ⊢
    obtain⟨n,h1,h2⟩:=h
    cases h2
    exact⟨rfl,fun H2=>⟨_,h1,rfl⟩⟩
 all_goals (simp only[l8]at hk;first|cases hk;done|omega)
theorem b1U{T:List AV}{H:AHeap}{o:Oper}(hk:l8 P o≤1){v:AV}{H1:AHeap}(h:M7 P E T H o=some (.val v H1)):H1=H:=by
 by_cases h0:l8 P o=0
 ·exact(b6q h0 h).1
 have hk1:l8 P o=1:=by omega
 clear hk h0
 have hk:=hk1
 clear hk1
 obtain⟨dst,op,type,pos,after,guard⟩:=o
 cases op<;>simp only[M7]at h
 case load t a=>
  split at h
  ·exact(b0D h).2
  ·cases h
 case lookup t x ix ok=>exact(b0D h).2
 case slice t x lo hi mx=>exact(b0D h).2
 case convert src dst x=>
  simp only[Option.map_eq_some_iff]at h
  obtain⟨⟨v1,H2⟩,h1,h2⟩:=h
  cases h2
  simp only[l8]at hk
  split at hk
  ·rename_i e1 e2
   cases hx:c8 T x<;>simp only[F0,e1,e2,hx]at h1
   all_goals try (first|(cases h1;done)|(cases h1;rfl))
   case nilSlc=>
    split at h1
    ·cases h1;rfl
    ·cases h1
   case slc=>
    split at h1<;>try (cases h1;done)
    split at h1
    ·simp only[Option.map_eq_some_iff]at h1
     obtain⟨_,_,h2⟩:=h1
     cases h2;rfl
    ·cases h1
   all_goals (split at h1<;>cases h1)
  all_goals cases hk
 case call c=>
  unfold K2 at h
  cases hc:c.callee with
  |value f=>simp only[l8,hc]at hk;cases hk
  |invoke r m=>simp only[l8,hc]at hk;cases hk
  |builtin b=>
   simp only[l8,hc]at hk
   simp only[hc]at h
   cases b<;>simp at hk
   generalize c.args.toList.map (c8 T)=as at h ⊢
   generalize c.argTypes.toList=ts at h ⊢
   match as,ts,h with
   | [x],[t],h=>
    simp only at h
    split at h
    ·cases h;rfl
    ·simp only[Option.map_eq_some_iff]at h
     obtain⟨_,_,h2⟩:=h
     cases h2;rfl
 all_goals (simp only[l8]at hk;first|cases hk;done|omega)
theorem b0W{T:List AV}{H:AHeap}{o:Oper}{v:AV}(hk:l8 P o≤1)(h:a6C P E ops T H o=some v):Y1 P E w0 ops T H o fun v' H'=>v'=v∧H'=H:=by
 unfold a6C b7R at h
 unfold Y1 a3J
 split at h
 ·rename_i e
  try rw[e]
  try simp only
  unfold b3B at h
  unfold b3o
  split at h
  ·rename_i v1 H1 h1
   cases h
   try rw[h1]
   exact⟨rfl,b1U hk h1⟩
  ·cases h
 ·rename_i e
  try rw[e]
  cases h
  exact⟨rfl,rfl⟩
 ·cases h
theorem c0q{T:List AV}{H:AHeap}{o:Oper}{v:AV}(hk:l8 P o=0)(h:a6C P E ops T H o=some v)(H2:AHeap):a6C P E ops T H2 o=some v:=by
 unfold a6C b7R at h ⊢
 split at h
 ·rename_i e
  unfold b3B at h
  split at h
  ·rename_i v1 H1 h1
   cases h
   rw[(b6q hk h1).2 H2]
   rfl
  ·cases h
 ·rename_i e
  exact h
 ·cases h
theorem b7G{T T':List AV}{H:AHeap}{o:Oper}(h:∀x∈o.op.operands,c8 T x=c8 T' x):c0n w0 T H o=c0n w0 T' H o:=by
 unfold c0n
 split
 ·rename_i x e
  rw[h x (by rw[e];simp[Op.operands])]
 ·rfl
theorem b7o{T T':List AV}{H:AHeap}{o:Oper}{Q:AV→AHeap→Prop}(h:∀x∈o.op.operands,c8 T x=c8 T' x):a3V P T H o Q=a3V P T' H o Q:=by
 unfold a3V
 split
 ·rename_i t x e
  rw[h x (by rw[e];simp[Op.operands])]
 ·rename_i x s e
  rw[h x (by rw[e];simp[Op.operands])]
 ·rename_i x e
  rw[h x (by rw[e];simp[Op.operands])]
 ·rfl
theorem b0c{T T':List AV}{H:AHeap}{o:Oper}{Q:AV→AHeap→Prop}(h:b2M ops o T T')(hs:Y1 P E w0 ops T H o Q):Y1 P E w0 ops T' H o Q:=by
 unfold Y1 b3o at hs ⊢
 rw[←h.wanted, ←c0i o h.eval, ←b7G h.eval,show a3V P T' H o=a3V P T H o from funext fun Q=>(b7o h.eval).symm]
 exact hs
end
end Go.Am
end
