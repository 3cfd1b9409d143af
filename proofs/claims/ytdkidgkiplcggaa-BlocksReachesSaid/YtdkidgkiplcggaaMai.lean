/-
  BlocksReachesSaid: part Mai of its proof.
-/
import Derived.Test.YtdkidgkiplcggaaMah
set_option linter.unusedVariables false
set_option linter.unusedSimpArgs false
set_option maxRecDepth 100000
section
namespace Go.Am
section
variable(P:Program)(E:d6)
def n9(o:Oper):Nat:=match o.op with
 | .move _| .assign _| .pick .. | .build .. | .nilCheck _| .binOp .. | .unOp .. | .makeInterface .. | .makeFunc .. | .fieldAddr .. | .field .. | .indexAddr .. | .index .. | .typeAssert .. | .extract .. =>0
 | .load .. | .lookup .. | .slice .. =>1
 | .call c=>match c.callee with
  | .builtin .len=>1
  | .builtin .cap| .builtin .min| .builtin .max=>0
  |_=>2
 | .convert src dst _=>match P.underlying src,P.underlying dst with
  |some (.slice _),some .string=>1
  |some (.int _),some (.int _)=>0
  |some .string,some .string=>0
  |_,_=>2
 |_=>2
def b6p(r:Option P8):Option AV:=match r with
 |some (.val v _)=>some v
 |_=>none
def b9E(g:Option Bool)(r:Option AV):Option AV:=match g with
 |some true=>r
 |some false=>some p4
 |none=>none
def a8p(ops:Array Oper)(T:List AV)(H:AHeap)(o:Oper):Option AV:=b9E (O1 ops T o) (b6p (O4 P E T H o))
end
section
variable{P:Program}{E:d6}{w0:a3Q}{ops:Array Oper}
theorem b2v{r:Option AV}{H H1:AHeap}{v:AV}(h:(r.map fun x=>P8.val x H)=some (.val v H1)):r=some v∧H1=H:=by
 cases r with
 |none=>cases h
 |some x=>cases h;exact⟨rfl,rfl⟩
theorem c2e{H:AHeap}{src dst:TypeId}{x v:AV}{H1:AHeap}(hk:n9 P ⟨none, .convert src dst (.tmp 0),0,"", #[],none⟩=0)(h:F8 P E H src dst x=some (v,H1)):H1=H∧∀H2,F8 P E H2 src dst x=some (v,H2):=by
 simp only[n9]at hk
 split at hk
 ·cases hk
 ·rename_i e1 e2
  unfold F8 at h ⊢
  rw[e1,e2]at h ⊢
  cases x<;>simp at h ⊢
  obtain⟨rfl,rfl⟩:=h
  simp
 ·rename_i e1 e2
  unfold F8 at h ⊢
  rw[e1,e2]at h ⊢
  cases x<;>simp at h ⊢
  obtain⟨rfl,rfl⟩:=h
  simp
 ·cases hk
theorem b8h{T:List AV}{H:AHeap}{o:Oper}(hk:n9 P o=0){v:AV}{H1:AHeap}(h:O4 P E T H o=some (.val v H1)):H1=H∧∀H2,O4 P E T H2 o=some (.val v H2):=by
 obtain⟨dst,op,type,pos,after,guard⟩:=o
 cases op<;>simp only[O4]at h ⊢
 case move x=>cases h;exact⟨rfl,fun _=>rfl⟩
 case assign x=>cases h;exact⟨rfl,fun _=>rfl⟩
 case pick c a b=>
  split at h
  ·cases h;exact⟨rfl,fun _=>rfl⟩
  ·cases h
 case build t ps=>obtain⟨e,rfl⟩:=b2v h;exact⟨rfl,fun _=>by rw[e];rfl⟩
 case nilCheck x=>
  split at h<;>first|cases h;done|skip
  ·cases h;exact⟨rfl,fun _=>rfl⟩
 case binOp op t x y yt=>
  split at h
  ·rename_i hg;obtain⟨e,rfl⟩:=b2v h;exact⟨rfl,fun _=>by rw[if_pos hg,e];rfl⟩
  ·cases h
 case unOp op t x=>obtain⟨e,rfl⟩:=b2v h;exact⟨rfl,fun _=>by rw[e];rfl⟩
 case makeInterface t x=>
  split at h
  ·cases h
  ·cases h;exact⟨rfl,fun _=>rfl⟩
  ·cases h
 case makeFunc fn a b=>cases h;exact⟨rfl,fun _=>rfl⟩
 case fieldAddr s x f=>obtain⟨e,rfl⟩:=b2v h;exact⟨rfl,fun _=>by rw[e];rfl⟩
 case field s x f=>obtain⟨e,rfl⟩:=b2v h;exact⟨rfl,fun _=>by rw[e];rfl⟩
 case indexAddr s x f=>obtain⟨e,rfl⟩:=b2v h;exact⟨rfl,fun _=>by rw[e];rfl⟩
 case index s x f=>obtain⟨e,rfl⟩:=b2v h;exact⟨rfl,fun _=>by rw[e];rfl⟩
 case typeAssert x t a ok=>obtain⟨e,rfl⟩:=b2v h;exact⟨rfl,fun _=>by rw[e];rfl⟩
 case extract t ix=>
  split at h
  ·obtain⟨e,rfl⟩:=b2v h;exact⟨rfl,fun _=>by rw[e];rfl⟩
  ·cases h
 case convert src dst x=>
  simp only[Option.map_eq_some_iff]at h
  obtain⟨⟨v1,H2⟩,h1,h2⟩:=h
  cases h2
  obtain⟨rfl,g⟩:=c2e (by exact hk) h1
  exact⟨rfl,fun H2=>by rw[g H2];rfl⟩
 case call c=>
  unfold L7 at h ⊢
  cases hc:c.callee with
  |value f=>simp only[n9,hc]at hk;cases hk
  |invoke r m=>simp only[n9,hc]at hk;cases hk
  |builtin b=>
   simp only[n9,hc]at hk
   simp only[hc]at h ⊢
   cases b<;>simp at hk
   case cap=>
    generalize c.args.toList.map (c8 T)=as at h ⊢
    generalize c.argTypes.toList=ts at h ⊢
    match as,ts,h with
    | [x],[t],h=>
     simp only[Option.map_eq_some_iff]at h ⊢
     obtain⟨n,h1,h2⟩:=h
     cases h2
     exact⟨rfl,fun H2=>⟨n,h1,rfl⟩⟩
   case min=>
    simp only[Option.map_eq_some_iff]at h ⊢
    obtain⟨n,h1,h2⟩:=h
    cases h2
    exact⟨rfl,fun H2=>⟨_,h1,rfl⟩⟩
   case max=>
    simp only[Option.map_eq_some_iff]at h ⊢
    obtain⟨n,h1,h2⟩:=h
    cases h2
    exact⟨rfl,fun H2=>⟨_,h1,rfl⟩⟩
 all_goals (simp only[n9]at hk;first|cases hk;done|omega)
theorem b4H{T:List AV}{H:AHeap}{o:Oper}(hk:n9 P o≤1){v:AV}{H1:AHeap}(h:O4 P E T H o=some (.val v H1)):H1=H:=by
 by_cases h0:n9 P o=0
 ·exact(b8h h0 h).1
 have hk1:n9 P o=1:=by omega
 clear hk h0
 have hk:=hk1
 clear hk1
 obtain⟨dst,op,type,pos,after,guard⟩:=o
 cases op<;>simp only[O4]at h
 case load t a=>
  split at h
  ·exact(b2v h).2
  ·cases h
 case lookup t x ix ok=>exact(b2v h).2
 case slice t x lo hi mx=>exact(b2v h).2
 case convert src dst x=>
  simp only[Option.map_eq_some_iff]at h
  obtain⟨⟨v1,H2⟩,h1,h2⟩:=h
  cases h2
  simp only[n9]at hk
  split at hk
  ·rename_i e1 e2
   cases hx:c8 T x<;>simp only[F8,e1,e2,hx]at h1
   all_goals try (first|(cases h1;done)|(cases h1;rfl))
   case nilSlc=>
    split at h1
    ·cases h1;rfl
    ·cases h1
   case slc=>
    split at h1<;>try (cases h1;done)
    split at h1
    ·simp only[Option.map_eq_some_iff]at h1
     obtain⟨_,_,h2⟩:=h1
     cases h2;rfl
    ·cases h1
   all_goals (split at h1<;>cases h1)
  all_goals cases hk
 case call c=>
  unfold L7 at h
  cases hc:c.callee with
  |value f=>simp only[n9,hc]at hk;cases hk
  |invoke r m=>simp only[n9,hc]at hk;cases hk
  |builtin b=>
   simp only[n9,hc]at hk
   simp only[hc]at h
   cases b<;>simp at hk
   generalize c.args.toList.map (c8 T)=as at h ⊢
   generalize c.argTypes.toList=ts at h ⊢
   match as,ts,h with
   | [x],[t],h=>
    simp only at h
    split at h
    ·cases h;rfl
    ·simp only[Option.map_eq_some_iff]at h
     obtain⟨_,_,h2⟩:=h
     cases h2;rfl
 all_goals (simp only[n9]at hk;first|cases hk;done|omega)
theorem b4m{T:List AV}{H:AHeap}{o:Oper}{v:AV}(hk:n9 P o≤1)(h:a8p P E ops T H o=some v):a0w P E w0 ops T H o fun v' H'=>v'=v∧H'=H:=by
 unfold a8p b9E at h
 unfold a0w a4Y
 split at h
 ·rename_i e
  try rw[e]
  try simp only
  unfold b6p at h
  unfold b5j
  split at h
  ·rename_i v1 H1 h1
   cases h
   try rw[h1]
   exact⟨rfl,b4H hk h1⟩
  ·cases h
 ·rename_i e
  try rw[e]
  cases h
  exact⟨rfl,rfl⟩
 ·cases h
theorem c2u{T:List AV}{H:AHeap}{o:Oper}{v:AV}(hk:n9 P o=0)(h:a8p P E ops T H o=some v)(H2:AHeap):a8p P E ops T H2 o=some v:=by
 unfold a8p b9E at h ⊢
 split at h
 ·rename_i e
  unfold b6p at h
  split at h
  ·rename_i v1 H1 h1
   cases h
   rw[(b8h hk h1).2 H2]
   rfl
  ·cases h
 ·rename_i e
  exact h
 ·cases h
theorem b9R{T T':List AV}{H:AHeap}{o:Oper}(h:∀x∈o.op.operands,c8 T x=c8 T' x):c2i w0 T H o=c2i w0 T' H o:=by
 unfold c2i
 split
 ·rename_i x e
  rw[h x (by rw[e];simp[Op.operands])]
 ·rfl
theorem b7R{T T':List AV}{H:AHeap}{o:Oper}{Q:AV→AHeap→Prop}(h:∀x∈o.op.operands,c8 T x=c8 T' x):a5t P T H o Q=a5t P T' H o Q:=by
 unfold a5t
 split
 ·rename_i t x e
  rw[h x (by rw[e];simp[Op.operands])]
 ·rename_i x s e
  rw[h x (by rw[e];simp[Op.operands])]
 ·rename_i x e
  rw[h x (by rw[e];simp[Op.operands])]
 ·rfl
theorem b1A{T T':List AV}{H:AHeap}{o:Oper}{Q:AV→AHeap→Prop}(h:b4x ops o T T')(hs:a0w P E w0 ops T H o Q):a0w P E w0 ops T' H o Q:=by
 unfold a0w b5j at hs ⊢
 rw[←h.wanted, ←c2w o h.eval, ←b9R h.eval,show a5t P T' H o=a5t P T H o from funext fun Q=>(b7R h.eval).symm]
 exact hs
end
end Go.Am
end
