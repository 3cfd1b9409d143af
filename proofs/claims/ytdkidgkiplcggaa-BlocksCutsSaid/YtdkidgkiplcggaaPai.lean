/-
  BlocksCutsSaid: part Pai of its proof.
-/
import Derived.Test.YtdkidgkiplcggaaPah
set_option linter.unusedVariables false
set_option linter.unusedSimpArgs false
set_option maxRecDepth 100000
section
namespace Go.Am
section
variable(P:Program)(E:g8)
def r7(o:Oper):Nat:=match o.op with
 | .move _| .assign _| .pick .. | .build .. | .nilCheck _| .binOp .. | .unOp .. | .makeInterface .. | .makeFunc .. | .fieldAddr .. | .field .. | .indexAddr .. | .index .. | .typeAssert .. | .extract .. =>0
 | .load .. | .lookup .. | .slice .. =>1
 | .call c=>match c.callee with
  | .builtin .len=>1
  | .builtin .cap| .builtin .min| .builtin .max=>0
  |_=>2
 | .convert src dst _=>match P.underlying src,P.underlying dst with
  |some (.slice _),some .string=>1
  |some (.int _),some (.int _)=>0
  |some .string,some .string=>0
  |_,_=>2
 |_=>2
def b8Y(r:Option W7):Option AV:=match r with
 |some (.val v _)=>some v
 |_=>none
def c3m(g:Option Bool)(r:Option AV):Option AV:=match g with
 |some true=>r
 |some false=>some s8
 |none=>none
def b0x(ops:Array Oper)(T:List AV)(H:AHeap)(o:Oper):Option AV:=c3m (U8 ops T o) (b8Y (V8 P E T H o))
end
section
variable{P:Program}{E:g8}{w0:a4P}{ops:Array Oper}
theorem b4A{r:Option AV}{H H1:AHeap}{v:AV}(h:(r.map fun x=>W7.val x H)=some (.val v H1)):r=some v∧H1=H:=by
 cases r with
 |none=>cases h
 |some x=>cases h;exact⟨rfl,rfl⟩
theorem c5W{H:AHeap}{src dst:TypeId}{x v:AV}{H1:AHeap}(hk:r7 P ⟨none, .convert src dst (.tmp 0),0,"", #[],none⟩=0)(h:J3 P E H src dst x=some (v,H1)):H1=H∧∀H2,J3 P E H2 src dst x=some (v,H2):=by
 simp only[r7]at hk
 split at hk
 ·cases hk
 ·rename_i e1 e2
  unfold J3 at h ⊢
  rw[e1,e2]at h ⊢
  cases x<;>simp at h ⊢
  obtain⟨rfl,rfl⟩:=h
  simp
 ·rename_i e1 e2
  unfold J3 at h ⊢
  rw[e1,e2]at h ⊢
  cases x<;>simp at h ⊢
  obtain⟨rfl,rfl⟩:=h
  simp
 ·cases hk
theorem c2a{T:List AV}{H:AHeap}{o:Oper}(hk:r7 P o=0){v:AV}{H1:AHeap}(h:V8 P E T H o=some (.val v H1)):H1=H∧∀H2,V8 P E T H2 o=some (.val v H2):=by
 obtain⟨dst,op,type,pos,after,guard⟩:=o
 cases op<;>simp only[V8]at h ⊢
 case move x=>cases h;exact⟨rfl,fun _=>rfl⟩
 case assign x=>cases h;exact⟨rfl,fun _=>rfl⟩
 case pick c a b=>
  split at h
  ·cases h;exact⟨rfl,fun _=>rfl⟩
  ·cases h
 case build t ps=>obtain⟨e,rfl⟩:=b4A h;exact⟨rfl,fun _=>by rw[e];rfl⟩
 case nilCheck x=>
  split at h<;>first|cases h;done|skip
  ·cases h;exact⟨rfl,fun _=>rfl⟩
 case binOp op t x y yt=>
  split at h
  ·rename_i hg;obtain⟨e,rfl⟩:=b4A h;exact⟨rfl,fun _=>by rw[if_pos hg,e];rfl⟩
  ·cases h
 case unOp op t x=>obtain⟨e,rfl⟩:=b4A h;exact⟨rfl,fun _=>by rw[e];rfl⟩
 case makeInterface t x=>
  split at h
  ·cases h
  ·cases h;exact⟨rfl,fun _=>rfl⟩
  ·cases h
 case makeFunc fn a b=>cases h;exact⟨rfl,fun _=>rfl⟩
 case fieldAddr s x f=>obtain⟨e,rfl⟩:=b4A h;exact⟨rfl,fun _=>by rw[e];rfl⟩
 case field s x f=>obtain⟨e,rfl⟩:=b4A h;exact⟨rfl,fun _=>by rw[e];rfl⟩
 case indexAddr s x f=>obtain⟨e,rfl⟩:=b4A h;exact⟨rfl,fun _=>by rw[e];rfl⟩
 case index s x f=>obtain⟨e,rfl⟩:=b4A h;exact⟨rfl,fun _=>by rw[e];rfl⟩
 case typeAssert x t a ok=>obtain⟨e,rfl⟩:=b4A h;exact⟨rfl,fun _=>by rw[e];rfl⟩
 case extract t ix=>
  split at h
  ·obtain⟨e,rfl⟩:=b4A h;exact⟨rfl,fun _=>by rw[e];rfl⟩
  ·cases h
 case convert src dst x=>
  simp only[Option.map_eq_some_iff]at h
  obtain⟨⟨v1,H2⟩,h1,h2⟩:=h
  cases h2
  obtain⟨rfl,g⟩:=c5W (by exact hk) h1
  exact⟨rfl,fun H2=>by rw[g H2];rfl⟩
 case call c=>
  unfold Q8 at h ⊢
  cases hc:c.callee with
  |value f=>simp only[r7,hc]at hk;cases hk
  |invoke r m=>simp only[r7,hc]at hk;cases hk
  |builtin b=>
   simp only[r7,hc]at hk
   simp only[hc]at h ⊢
   cases b<;>simp at hk
   case cap=>
    generalize c.args.toList.map (i4 T)=as at h ⊢
    generalize c.argTypes.toList=ts at h ⊢
    match as,ts,h with
    | [x],[t],h=>
     simp only[Option.map_eq_some_iff]at h ⊢
     obtain⟨n,h1,h2⟩:=h
     cases h2
     exact⟨rfl,fun H2=>⟨n,h1,rfl⟩⟩
   case min=>
    simp only[Option.map_eq_some_iff]at h ⊢
    obtain⟨n,h1,h2⟩:=h
    cases h2
    exact⟨rfl,fun H2=>⟨_,h1,rfl⟩⟩
   case max=>
    simp only[Option.map_eq_some_iff]at h ⊢
    obtain⟨n,h1,h2⟩:=h
    cases h2
    exact⟨rfl,fun H2=>⟨_,h1,rfl⟩⟩
 all_goals (simp only[r7]at hk;first|cases hk;done|omega)
theorem b5G{T:List AV}{H:AHeap}{o:Oper}(hk:r7 P o≤1){v:AV}{H1:AHeap}(h:V8 P E T H o=some (.val v H1)):H1=H:=by
 by_cases h0:r7 P o=0
 ·exact(c2a h0 h).1
 have hk1:r7 P o=1:=by omega
 clear hk h0
 have hk:=hk1
 clear hk1
 obtain⟨dst,op,type,pos,after,guard⟩:=o
 cases op<;>simp only[V8]at h
 case load t a=>
  split at h
  ·exact(b4A h).2
  ·cases h
 case lookup t x ix ok=>exact(b4A h).2
 case slice t x lo hi mx=>exact(b4A h).2
 case convert src dst x=>
  simp only[Option.map_eq_some_iff]at h
  obtain⟨⟨v1,H2⟩,h1,h2⟩:=h
  cases h2
  simp only[r7]at hk
  split at hk
  ·rename_i e1 e2
   cases hx:i4 T x<;>simp only[J3,e1,e2,hx]at h1
   all_goals try (first|(cases h1;done)|(cases h1;rfl))
   case nilSlc=>
    split at h1
    ·cases h1;rfl
    ·cases h1
   case slc=>
    split at h1<;>try (cases h1;done)
    split at h1
    ·simp only[Option.map_eq_some_iff]at h1
     obtain⟨_,_,h2⟩:=h1
     cases h2;rfl
    ·cases h1
   all_goals (split at h1<;>cases h1)
  all_goals cases hk
 case call c=>
  unfold Q8 at h
  cases hc:c.callee with
  |value f=>simp only[r7,hc]at hk;cases hk
  |invoke r m=>simp only[r7,hc]at hk;cases hk
  |builtin b=>
   simp only[r7,hc]at hk
   simp only[hc]at h
   cases b<;>simp at hk
   generalize c.args.toList.map (i4 T)=as at h ⊢
   generalize c.argTypes.toList=ts at h ⊢
   match as,ts,h with
   | [x],[t],h=>
    simp only at h
    split at h
    ·cases h;rfl
    ·simp only[Option.map_eq_some_iff]at h
     obtain⟨_,_,h2⟩:=h
     cases h2;rfl
 all_goals (simp only[r7]at hk;first|cases hk;done|omega)
theorem b6k{T:List AV}{H:AHeap}{o:Oper}{v:AV}(hk:r7 P o≤1)(h:b0x P E ops T H o=some v):a1t P E w0 ops T H o fun v' H'=>v'=v∧H'=H:=by
 unfold b0x c3m at h
 unfold a1t a6g
 split at h
 ·rename_i e
  try rw[e]
  try simp only
  unfold b8Y at h
  unfold b7Z
  split at h
  ·rename_i v1 H1 h1
   cases h
   try rw[h1]
   exact⟨rfl,b5G hk h1⟩
  ·cases h
 ·rename_i e
  try rw[e]
  cases h
  exact⟨rfl,rfl⟩
 ·cases h
theorem c5n{T:List AV}{H:AHeap}{o:Oper}{v:AV}(hk:r7 P o=0)(h:b0x P E ops T H o=some v)(H2:AHeap):b0x P E ops T H2 o=some v:=by
 unfold b0x c3m at h ⊢
 split at h
 ·rename_i e
  unfold b8Y at h
  split at h
  ·rename_i v1 H1 h1
   cases h
   rw[(c2a hk h1).2 H2]
   rfl
  ·cases h
 ·rename_i e
  exact h
 ·cases h
theorem c4a{T T':List AV}{H:AHeap}{o:Oper}(h:∀x∈o.op.operands,i4 T x=i4 T' x):c5S w0 T H o=c5S w0 T' H o:=by
 unfold c5S
 split
 ·rename_i x e
  rw[h x (by rw[e];simp[Op.operands])]
 ·rfl
theorem c2c{T T':List AV}{H:AHeap}{o:Oper}{Q:AV→AHeap→Prop}(h:∀x∈o.op.operands,i4 T x=i4 T' x):a7b P T H o Q=a7b P T' H o Q:=by
 unfold a7b
 split
 ·rename_i t x e
  rw[h x (by rw[e];simp[Op.operands])]
 ·rename_i x s e
  rw[h x (by rw[e];simp[Op.operands])]
 ·rename_i x e
  rw[h x (by rw[e];simp[Op.operands])]
 ·rfl
theorem b4f{T T':List AV}{H:AHeap}{o:Oper}{Q:AV→AHeap→Prop}(h:b6o ops o T T')(hs:a1t P E w0 ops T H o Q):a1t P E w0 ops T' H o Q:=by
 unfold a1t b7Z at hs ⊢
 rw[←h.wanted, ←c5G o h.eval, ←c4a h.eval,show a7b P T' H o=a7b P T H o from funext fun Q=>(c2c h.eval).symm]
 exact hs
end
end Go.Am
end
