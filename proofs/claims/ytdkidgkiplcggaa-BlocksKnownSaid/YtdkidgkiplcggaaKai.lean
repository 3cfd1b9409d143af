/-
  BlocksKnownSaid: part Kai of its proof.
-/
import Derived.Test.YtdkidgkiplcggaaKah
set_option linter.unusedVariables false
set_option linter.unusedSimpArgs false
set_option maxRecDepth 100000
section
namespace Go.Am
section
variable(P:Program)(E:c9)
def j9(o:Oper):Nat:=match o.op with
 | .move _| .assign _| .pick .. | .build .. | .nilCheck _| .binOp .. | .unOp .. | .makeInterface .. | .makeFunc .. | .fieldAddr .. | .field .. | .indexAddr .. | .index .. | .typeAssert .. | .extract .. =>0
 | .load .. | .lookup .. | .slice .. =>1
 | .call c=>match c.callee with
  | .builtin .len=>1
  | .builtin .cap| .builtin .min| .builtin .max=>0
  |_=>2
 | .convert src dst _=>match P.underlying src,P.underlying dst with
  |some (.slice _),some .string=>1
  |some (.int _),some (.int _)=>0
  |some .string,some .string=>0
  |_,_=>2
 |_=>2
def b3D(r:Option O0):Option AV:=match r with
 |some (.val v _)=>some v
 |_=>none
def b7x(g:Option Bool)(r:Option AV):Option AV:=match g with
 |some true=>r
 |some false=>some o4
 |none=>none
def a6Y(ops:Array Oper)(T:List AV)(H:AHeap)(o:Oper):Option AV:=b7x (M9 ops T o) (b3D (N4 P E T H o))
end
section
variable{P:Program}{E:c9}{w0:a2x}{ops:Array Oper}
theorem b0z{r:Option AV}{H H1:AHeap}{v:AV}(h:(r.map fun x=>O0.val x H)=some (.val v H1)):r=some v∧H1=H:=by
 cases r with
 |none=>cases h
 |some x=>cases h;exact⟨rfl,rfl⟩
theorem c0w{H:AHeap}{src dst:TypeId}{x v:AV}{H1:AHeap}(hk:j9 P ⟨none, .convert src dst (.tmp 0),0,"", #[],none⟩=0)(h:E3 P E H src dst x=some (v,H1)):H1=H∧∀H2,E3 P E H2 src dst x=some (v,H2):=by
 simp only[j9]at hk
 split at hk
 ·cases hk
 ·rename_i e1 e2
  unfold E3 at h ⊢
  rw[e1,e2]at h ⊢
  cases x<;>simp at h ⊢
  obtain⟨rfl,rfl⟩:=h
  simp
 ·rename_i e1 e2
  unfold E3 at h ⊢
  rw[e1,e2]at h ⊢
  cases x<;>simp at h ⊢
  obtain⟨rfl,rfl⟩:=h
  simp
 ·cases hk
theorem b6j{T:List AV}{H:AHeap}{o:Oper}(hk:j9 P o=0){v:AV}{H1:AHeap}(h:N4 P E T H o=some (.val v H1)):H1=H∧∀H2,N4 P E T H2 o=some (.val v H2):=by
 obtain⟨dst,op,type,pos,after,guard⟩:=o
 cases op<;>simp only[N4]at h ⊢
 case move x=>cases h;exact⟨rfl,fun _=>rfl⟩
 case assign x=>cases h;exact⟨rfl,fun _=>rfl⟩
 case pick c a b=>
  split at h
  ·cases h;exact⟨rfl,fun _=>rfl⟩
  ·cases h
 case build t ps=>obtain⟨e,rfl⟩:=b0z h;exact⟨rfl,fun _=>by rw[e];rfl⟩
 case nilCheck x=>
  split at h<;>first|cases h;done|skip
  ·cases h;exact⟨rfl,fun _=>rfl⟩
 case binOp op t x y yt=>
  split at h
  ·rename_i hg;obtain⟨e,rfl⟩:=b0z h;exact⟨rfl,fun _=>by rw[if_pos hg,e];rfl⟩
  ·cases h
 case unOp op t x=>obtain⟨e,rfl⟩:=b0z h;exact⟨rfl,fun _=>by rw[e];rfl⟩
 case makeInterface t x=>
  split at h
  ·cases h
  ·cases h;exact⟨rfl,fun _=>rfl⟩
  ·cases h
 case makeFunc fn a b=>cases h;exact⟨rfl,fun _=>rfl⟩
 case fieldAddr s x f=>obtain⟨e,rfl⟩:=b0z h;exact⟨rfl,fun _=>by rw[e];rfl⟩
 case field s x f=>obtain⟨e,rfl⟩:=b0z h;exact⟨rfl,fun _=>by rw[e];rfl⟩
 case indexAddr s x f=>obtain⟨e,rfl⟩:=b0z h;exact⟨rfl,fun _=>by rw[e];rfl⟩
 case index s x f=>obtain⟨e,rfl⟩:=b0z h;exact⟨rfl,fun _=>by rw[e];rfl⟩
 case typeAssert x t a ok=>obtain⟨e,rfl⟩:=b0z h;exact⟨rfl,fun _=>by rw[e];rfl⟩
 case extract t ix=>
  split at h
  ·obtain⟨e,rfl⟩:=b0z h;exact⟨rfl,fun _=>by rw[e];rfl⟩
  ·cases h
 case convert src dst x=>
  simp only[Option.map_eq_some_iff]at h
  obtain⟨⟨v1,H2⟩,h1,h2⟩:=h
  cases h2
  obtain⟨rfl,g⟩:=c0w (by exact hk) h1
  exact⟨rfl,fun H2=>by rw[g H2];rfl⟩
 case call c=>
  unfold K4 at h ⊢
  cases hc:c.callee with
  |value f=>simp only[j9,hc]at hk;cases hk
  |invoke r m=>simp only[j9,hc]at hk;cases hk
  |builtin b=>
   simp only[j9,hc]at hk
   simp only[hc]at h ⊢
   cases b<;>simp at hk
   case cap=>
    generalize c.args.toList.map (b8 T)=as at h ⊢
    generalize c.argTypes.toList=ts at h ⊢
    match as,ts,h with
    | [x],[t],h=>
     simp only[Option.map_eq_some_iff]at h ⊢
     obtain⟨n,h1,h2⟩:=h
     cases h2
     exact⟨rfl,fun H2=>⟨n,h1,rfl⟩⟩
   case min=>
    simp only[Option.map_eq_some_iff]at h ⊢
    obtain⟨n,h1,h2⟩:=h
    cases h2
    exact⟨rfl,fun H2=>⟨_,h1,rfl⟩⟩
   case max=>
    simp only[Option.map_eq_some_iff]at h ⊢
    obtain⟨n,h1,h2⟩:=h
    cases h2
    exact⟨rfl,fun H2=>⟨_,h1,rfl⟩⟩
 all_goals (simp only[j9]at hk;first|cases hk;done|omega)
theorem b2b{T:List AV}{H:AHeap}{o:Oper}(hk:j9 P o≤1){v:AV}{H1:AHeap}(h:N4 P E T H o=some (.val v H1)):H1=H:=by
 by_cases h0:j9 P o=0
 ·exact(b6j h0 h).1
 have hk1:j9 P o=1:=by omega
 clear hk h0
 have hk:=hk1
 clear hk1
 obtain⟨dst,op,type,pos,after,guard⟩:=o
 cases op<;>simp only[N4]at h
 case load t a=>
  split at h
  ·exact(b0z h).2
  ·cases h
 case lookup t x ix ok=>exact(b0z h).2
 case slice t x lo hi mx=>exact(b0z h).2
 case convert src dst x=>
  simp only[Option.map_eq_some_iff]at h
  obtain⟨⟨v1,H2⟩,h1,h2⟩:=h
  cases h2
  simp only[j9]at hk
  split at hk
  ·rename_i e1 e2
   cases hx:b8 T x<;>simp only[E3,e1,e2,hx]at h1
   all_goals try (first|(cases h1;done)|(cases h1;rfl))
   case nilSlc=>
    split at h1
    ·cases h1;rfl
    ·cases h1
   case slc=>
    split at h1<;>try (cases h1;done)
    split at h1
    ·simp only[Option.map_eq_some_iff]at h1
     obtain⟨_,_,h2⟩:=h1
     cases h2;rfl
    ·cases h1
   all_goals (split at h1<;>cases h1)
  all_goals cases hk
 case call c=>
  unfold K4 at h
  cases hc:c.callee with
  |value f=>simp only[j9,hc]at hk;cases hk
  |invoke r m=>simp only[j9,hc]at hk;cases hk
  |builtin b=>
   simp only[j9,hc]at hk
   simp only[hc]at h
   cases b<;>simp at hk
   generalize c.args.toList.map (b8 T)=as at h ⊢
   generalize c.argTypes.toList=ts at h ⊢
   match as,ts,h with
   | [x],[t],h=>
    simp only at h
    split at h
    ·cases h;rfl
    ·simp only[Option.map_eq_some_iff]at h
     obtain⟨_,_,h2⟩:=h
     cases h2;rfl
 all_goals (simp only[j9]at hk;first|cases hk;done|omega)
theorem b2i{T:List AV}{H:AHeap}{o:Oper}{v:AV}(hk:j9 P o≤1)(h:a6Y P E ops T H o=some v):X9 P E w0 ops T H o fun v' H'=>v'=v∧H'=H:=by
 unfold a6Y b7x at h
 unfold X9 a2t
 split at h
 ·rename_i e
  try rw[e]
  try simp only
  unfold b3D at h
  unfold b3h
  split at h
  ·rename_i v1 H1 h1
   cases h
   try rw[h1]
   exact⟨rfl,b2b hk h1⟩
  ·cases h
 ·rename_i e
  try rw[e]
  cases h
  exact⟨rfl,rfl⟩
 ·cases h
theorem c0A{T:List AV}{H:AHeap}{o:Oper}{v:AV}(hk:j9 P o=0)(h:a6Y P E ops T H o=some v)(H2:AHeap):a6Y P E ops T H2 o=some v:=by
 unfold a6Y b7x at h ⊢
 split at h
 ·rename_i e
  unfold b3D at h
  split at h
  ·rename_i v1 H1 h1
   cases h
   rw[(b6j hk h1).2 H2]
   rfl
  ·cases h
 ·rename_i e
  exact h
 ·cases h
theorem b8x{T T':List AV}{H:AHeap}{o:Oper}(h:∀x∈o.op.operands,b8 T x=b8 T' x):b9Y w0 T H o=b9Y w0 T' H o:=by
 unfold b9Y
 split
 ·rename_i x e
  rw[h x (by rw[e];simp[Op.operands])]
 ·rfl
theorem b7c{T T':List AV}{H:AHeap}{o:Oper}{Q:AV→AHeap→Prop}(h:∀x∈o.op.operands,b8 T x=b8 T' x):a3W P T H o Q=a3W P T' H o Q:=by
 unfold a3W
 split
 ·rename_i t x e
  rw[h x (by rw[e];simp[Op.operands])]
 ·rename_i x s e
  rw[h x (by rw[e];simp[Op.operands])]
 ·rename_i x e
  rw[h x (by rw[e];simp[Op.operands])]
 ·rfl
theorem b0b{T T':List AV}{H:AHeap}{o:Oper}{Q:AV→AHeap→Prop}(h:b1H ops o T T')(hs:X9 P E w0 ops T H o Q):X9 P E w0 ops T' H o Q:=by
 unfold X9 b3h at hs ⊢
 rw[←h.wanted, ←b9N o h.eval, ←b8x h.eval,show a3W P T' H o=a3W P T H o from funext fun Q=>(b7c h.eval).symm]
 exact hs
end
end Go.Am
end
