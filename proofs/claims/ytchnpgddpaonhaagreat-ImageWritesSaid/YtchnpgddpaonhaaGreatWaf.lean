/- A part of the proof of ImageWrites. -/
import Derived.Test.YtchnpgddpaonhaaGreatWae
set_option linter.unusedVariables false
set_option linter.unusedSimpArgs false
set_option maxRecDepth 100000
section
namespace Go.Am
section
variable(P:Program)(E:j6)(w0:World)
def r9(o:Oper):Nat:=match o.op with
 | .move _| .assign _| .pick .. | .build .. | .nilCheck _| .binOp .. | .unOp .. | .makeInterface .. | .makeFunc .. | .fieldAddr .. | .field .. | .indexAddr .. | .index .. | .typeAssert .. | .extract .. =>0
 | .load .. | .lookup .. | .slice .. =>1
 | .call c=>match c.callee with
  | .builtin .len=>1
  | .builtin .cap| .builtin .min| .builtin .max=>0
  |_=>2
 | .convert src dst _=>match P.underlying src,P.underlying dst with
  |some (.slice _),some .string=>1
  |some (.int _),some (.int _)=>0
  |some .string,some .string=>0
  |_,_=>2
 |_=>2
def c7Z(r:Option a1u):Option AV:=match r with
 |some (.val v _)=>some v
 |_=>none
def d3o(g:Option Bool)(r:Option AV):Option AV:=match g with
 |some true=>r
 |some false=>some A8
 |none=>none
def b1m(ops:Array Oper)(T:List AV)(H:AHeap)(o:Oper):Option AV:=d3o (a0w ops T o) (c7Z (opA P E T H o))
def d4L(r:Option a1u)(Q:AV→AHeap→Prop):Prop:=match r with
 |some (.val v H')=>Q v H'
 |some (.call f args H')=>FnD P E w0 f args H' Q
 |none=>False
def a9d(ops:Array Oper)(T:List AV)(H:AHeap)(o:Oper)(Q:AV→AHeap→Prop):Prop:=
 a3c (a0w ops T o) (d4L P E w0 (opA P E T H o)) H Q
def c5z(anc:Nat):Nat→List r5→Nat→Nat
 |_,[],m=>m
 |j,d::ds,m=>c5z anc (j+1) ds (if d.wr&&anc.testBit j then d.lo+1 else m)
def sameAt(ops:Array Oper)(T:List AV)(o:Oper)(v:AV):List AHeap→Prop
 | []=>True
 |G::Gs=>b1m P E ops T G o=some v∧sameAt ops T o v Gs
def b9d(ops:Array Oper)(H':AHeap)(anc:Nat):Nat→List r5→Prop
 |_,[]=>True
 |j,d::ds=>if d.hi==1&& !anc.testBit j then b1m P E ops d.T H' d.o=some d.v∧b9d ops H' anc (j+1) ds else b9d ops H' anc (j+1) ds
def b7b(ops:Array Oper):List Oper→List r5→List AV→AHeap→List AHeap→(List AV→AHeap→Prop)→Prop
 | [],_,T,H,_,Q=>Q T H
 |o::l,ds,T,H,older,Q=>match a1A ds o.after.toList 0 with
  |none=>False
  |some anc=>if b2h (fun j e=>anc.testBit j||o.apart ops e.o) 0 ds then
    match r9 P o with
    |0=>b7 (b1m P E ops T H o) fun v=>b7b ops l (ds++[⟨o,anc,T,v,older.length,0,false,[]⟩]) (K1 T o.dst v) H older Q
    |1=>b7 (b1m P E ops T H o) fun v=>sameAt P E ops T o v (older.take (older.length - c5z anc 0 ds 0))∧b7b ops l (ds++[⟨o,anc,T,v,older.length,1,false,[]⟩]) (K1 T o.dst v) H older Q
    |_=>if b2h (fun j e=> !e.wr||anc.testBit j) 0 ds then
      a9d P E w0 ops T H o fun v H'=>b9d P E ops H' anc 0 ds∧b7b ops l (ds++[⟨o,anc,T,v,older.length,2,true,[]⟩]) (K1 T o.dst v) H' (H::older) Q
     else False
   else False
end
section
variable{P:Program}{E:j6}{w0:World}{ops:Array Oper}
theorem c6E{r:Option AV}{H H1:AHeap}{v:AV}(h:(r.map fun x=>a1u.val x H)=some (.val v H1)):r=some v∧H1=H:=by
 cases r with
 |none=>cases h
 |some x=>cases h;exact⟨rfl,rfl⟩
theorem d8l{H:AHeap}{src dst:TypeId}{x v:AV}{H1:AHeap}(hk:r9 P ⟨none, .convert src dst (.tmp 0),0,"", #[],none⟩=0)(h:U7 P E H src dst x=some (v,H1)):H1=H∧∀H2,U7 P E H2 src dst x=some (v,H2):=by
 simp only[r9]at hk
 split at hk
 ·cases hk
 ·rename_i e1 e2
  unfold U7 at h ⊢
  rw[e1,e2]at h ⊢
  cases x<;>simp at h ⊢
  obtain⟨rfl,rfl⟩:=h
  simp
 ·rename_i e1 e2
  unfold U7 at h ⊢
  rw[e1,e2]at h ⊢
  cases x<;>simp at h ⊢
  obtain⟨rfl,rfl⟩:=h
  simp
 ·cases hk
theorem c8S{T:List AV}{H:AHeap}{o:Oper}(hk:r9 P o=0){v:AV}{H1:AHeap}(h:opA P E T H o=some (.val v H1)):H1=H∧∀H2,opA P E T H2 o=some (.val v H2):=by
 obtain⟨dst,op,type,pos,after,guard⟩:=o
 cases op<;>simp only[opA]at h ⊢
 case move x=>cases h;exact⟨rfl,fun _=>rfl⟩
 case assign x=>cases h;exact⟨rfl,fun _=>rfl⟩
 case pick c a b=>
  split at h
  ·cases h;exact⟨rfl,fun _=>rfl⟩
  ·cases h
 case build t ps=>obtain⟨e,rfl⟩:=c6E h;exact⟨rfl,fun _=>by rw[e];rfl⟩
 case nilCheck x=>
  split at h<;>first|cases h;done|skip
  ·cases h;exact⟨rfl,fun _=>rfl⟩
 case binOp op t x y yt=>
  split at h
  ·rename_i hg;obtain⟨e,rfl⟩:=c6E h;exact⟨rfl,fun _=>by rw[if_pos hg,e];rfl⟩
  ·cases h
 case unOp op t x=>obtain⟨e,rfl⟩:=c6E h;exact⟨rfl,fun _=>by rw[e];rfl⟩
 case makeInterface t x=>
  split at h
  ·cases h
  ·cases h;exact⟨rfl,fun _=>rfl⟩
  ·cases h
 case makeFunc fn a b=>cases h;exact⟨rfl,fun _=>rfl⟩
 case fieldAddr s x f=>obtain⟨e,rfl⟩:=c6E h;exact⟨rfl,fun _=>by rw[e];rfl⟩
 case field s x f=>obtain⟨e,rfl⟩:=c6E h;exact⟨rfl,fun _=>by rw[e];rfl⟩
 case indexAddr s x f=>obtain⟨e,rfl⟩:=c6E h;exact⟨rfl,fun _=>by rw[e];rfl⟩
 case index s x f=>obtain⟨e,rfl⟩:=c6E h;exact⟨rfl,fun _=>by rw[e];rfl⟩
 case typeAssert x t a ok=>obtain⟨e,rfl⟩:=c6E h;exact⟨rfl,fun _=>by rw[e];rfl⟩
 case extract t ix=>
  split at h
  ·obtain⟨e,rfl⟩:=c6E h;exact⟨rfl,fun _=>by rw[e];rfl⟩
  ·cases h
 case convert src dst x=>
  simp only[Option.map_eq_some_iff]at h
  obtain⟨⟨v1,H2⟩,h1,h2⟩:=h
  cases h2
  obtain⟨rfl,g⟩:=d8l (by exact hk) h1
  exact⟨rfl,fun H2=>by rw[g H2];rfl⟩
 case call c=>
  unfold a1q at h ⊢
  cases hc:c.callee with
  |value f=>simp only[r9,hc]at hk;cases hk
  |invoke r m=>simp only[r9,hc]at hk;cases hk
  |builtin b=>
   simp only[r9,hc]at hk
   simp only[hc]at h ⊢
   cases b<;>simp at hk
   case cap=>
    generalize c.args.toList.map (p8 T)=as at h ⊢
    generalize c.argTypes.toList=ts at h ⊢
    match as,ts,h with
    | [x],[t],h=>
     simp only[Option.map_eq_some_iff]at h ⊢
     obtain⟨n,h1,h2⟩:=h
     cases h2
     exact⟨rfl,fun H2=>⟨n,h1,rfl⟩⟩
   case min=>
    simp only[Option.map_eq_some_iff]at h ⊢
    obtain⟨n,h1,h2⟩:=h
    cases h2
    exact⟨rfl,fun H2=>⟨_,h1,rfl⟩⟩
   case max=>
    simp only[Option.map_eq_some_iff]at h ⊢
    obtain⟨n,h1,h2⟩:=h
    cases h2
    exact⟨rfl,fun H2=>⟨_,h1,rfl⟩⟩
 all_goals (simp only[r9]at hk;first|cases hk;done|omega)
theorem c9A{T:List AV}{H:AHeap}{o:Oper}(hk:r9 P o≤1){v:AV}{H1:AHeap}(h:opA P E T H o=some (.val v H1)):H1=H:=by
 by_cases h0:r9 P o=0
 ·exact(c8S h0 h).1
 have hk1:r9 P o=1:=by omega
 clear hk h0
 have hk:=hk1
 clear hk1
 obtain⟨dst,op,type,pos,after,guard⟩:=o
 cases op<;>simp only[opA]at h
 case load t a=>
  split at h
  ·exact(c6E h).2
  ·cases h
 case lookup t x ix ok=>exact(c6E h).2
 case slice t x lo hi mx=>exact(c6E h).2
 case convert src dst x=>
  simp only[Option.map_eq_some_iff]at h
  obtain⟨⟨v1,H2⟩,h1,h2⟩:=h
  cases h2
  simp only[r9]at hk
  split at hk
  ·rename_i e1 e2
   cases hx:p8 T x<;>simp only[U7,e1,e2,hx]at h1
   all_goals try (first|(cases h1;done)|(cases h1;rfl))
   case nilSlc=>
    split at h1
    ·cases h1;rfl
    ·cases h1
   case slc=>
    split at h1<;>try (cases h1;done)
    split at h1
    ·simp only[Option.map_eq_some_iff]at h1
     obtain⟨_,_,h2⟩:=h1
     cases h2;rfl
    ·cases h1
   all_goals (split at h1<;>cases h1)
  all_goals cases hk
 case call c=>
  unfold a1q at h
  cases hc:c.callee with
  |value f=>simp only[r9,hc]at hk;cases hk
  |invoke r m=>simp only[r9,hc]at hk;cases hk
  |builtin b=>
   simp only[r9,hc]at hk
   simp only[hc]at h
   cases b<;>simp at hk
   generalize c.args.toList.map (p8 T)=as at h ⊢
   generalize c.argTypes.toList=ts at h ⊢
   match as,ts,h with
   | [x],[t],h=>
    simp only at h
    split at h
    ·cases h;rfl
    ·simp only[Option.map_eq_some_iff]at h
     obtain⟨_,_,h2⟩:=h
     cases h2;rfl
 all_goals (simp only[r9]at hk;first|cases hk;done|omega)
theorem b3j{T:List AV}{H:AHeap}{o:Oper}{v:AV}(hk:r9 P o≤1)(h:b1m P E ops T H o=some v):a9d P E w0 ops T H o fun v' H'=>v'=v∧H'=H:=by
 unfold b1m d3o at h
 unfold a9d a3c
 split at h
 ·rename_i e
  rw[e]
  simp only
  unfold c7Z at h
  unfold d4L
  split at h
  ·rename_i v1 H1 h1
   cases h
   rw[h1]
   exact⟨rfl,c9A hk h1⟩
  ·cases h
 ·rename_i e
  rw[e]
  cases h
  exact⟨rfl,rfl⟩
 ·cases h
theorem d0V{T:List AV}{H:AHeap}{o:Oper}{v:AV}(hk:r9 P o=0)(h:b1m P E ops T H o=some v)(H2:AHeap):b1m P E ops T H2 o=some v:=by
 unfold b1m d3o at h ⊢
 split at h
 ·rename_i e
  unfold c7Z at h
  split at h
  ·rename_i v1 H1 h1
   cases h
   rw[(c8S hk h1).2 H2]
   rfl
  ·cases h
 ·rename_i e
  exact h
 ·cases h
theorem a9d.det{T:List AV}{H:AHeap}{o:Oper}{Q:AV→AHeap→Prop}(h:a9d P E w0 ops T H o Q):∃v H',Q v H'∧a4g P E w0 ops T H o fun v' H''=>v'=v∧H''=H':=by
 unfold a9d a3c at h
 unfold a4g a3c
 split at h
 ·rename_i e
  unfold d4L at h
  unfold d5A
  split at h
  ·rename_i v1 H1 h1;rw[h1];exact⟨_,_,h,rfl,rfl⟩
  ·rename_i f args H1 h1;rw[h1]
   obtain⟨v,H',h2,h3⟩:=h
   exact⟨v,H',h3,h2⟩
  ·cases h
 ·rename_i e
  exact⟨_,_,h,rfl,rfl⟩
 ·cases h
theorem b6F{T T':List AV}{H:AHeap}{o:Oper}{Q:AV→AHeap→Prop}(h:c4x ops o T T')(hs:a4g P E w0 ops T H o Q):a4g P E w0 ops T' H o Q:=by
 unfold a4g at hs ⊢
 rw[←h.wanted, ←d7X o h.eval]
 exact hs
structure b3Q (P:Program) (E:j6) (w0:World) (ops:Array Oper) (T0:List AV) (gs:Nat→AHeap) (ds:List r5) (n:Nat):Prop where
 op:∀(i:Nat) (d:r5),ds[i]? =some d→ops[i]? =some d.o
 anc:∀(i:Nat) (d:r5),ds[i]? =some d→a1A (ds.take i) d.o.after.toList 0=some d.anc
 old:∀(i:Nat) (d:r5),ds[i]? =some d→d.T=A9 (fun _=>true) 0 (ds.take i) T0
 apart:∀(i j:Nat) (d e:r5),j<i→ds[i]? =some d→ds[j]? =some e→d.anc.testBit j=true∨d.o.apart ops e.o=true
 chain:∀(i j:Nat) (d e:r5),j<i→ds[i]? =some d→ds[j]? =some e→d.wr=true→e.wr=true→d.anc.testBit j=true∧e.lo<d.lo
 full:∀k,k<n→∃(j:Nat) (e:r5),ds[j]? =some e∧e.wr=true∧e.lo=k
 lo:∀(i:Nat) (d:r5),ds[i]? =some d→d.lo≤n∧(d.wr=true→d.lo<n)∧∀k,k<d.lo→∃(j:Nat) (e:r5),j<i∧ds[j]? =some e∧e.wr=true∧e.lo=k
 writes:∀(i:Nat) (d:r5),ds[i]? =some d→d.wr=true→a4g P E w0 ops d.T (gs d.lo) d.o fun v' H'=>v'=d.v∧H'=gs (d.lo+1)
 reads:∀(i:Nat) (d:r5),ds[i]? =some d→d.wr=false→r9 P d.o≤1∧∀k,k≤n→(∀(j:Nat) (e:r5),ds[j]? =some e→e.wr=true→(d.anc.testBit j=true→e.lo<k)∧(e.lo<k→e.anc.testBit i=false))→
  b1m P E ops d.T (gs k) d.o=some d.v
theorem b3Q.nil'{T0:List AV}{gs:Nat→AHeap}:b3Q P E w0 ops T0 gs [] 0:=by
 constructor<;>intros<;>simp_all
def gl(L:List AHeap)(k:Nat):AHeap:=L.reverse.getD k AHeap.empty
theorem d6n{L:List AHeap}{H':AHeap}{k:Nat}(h:k<L.length):gl (H'::L) k=gl L k:=by
 unfold gl
 rw[List.reverse_cons,List.getD_eq_getElem?_getD,List.getD_eq_getElem?_getD,List.getElem?_append_left (by simpa using h)]
theorem d4E{L:List AHeap}{H':AHeap}{k:Nat}(h:k=L.length):gl (H'::L) k=H':=by
 unfold gl
 subst h
 rw[List.reverse_cons,List.getD_eq_getElem?_getD,List.getElem?_append_right (by simp)]
 simp
theorem c4S{T:List AV}{o:Oper}{v:AV}:∀ {Gs:List AHeap},sameAt P E ops T o v Gs→∀G∈Gs,b1m P E ops T G o=some v
 | [],_,G,h=>by cases h
 |G::Gs,hs,X,h=>by
  rcases List.mem_cons.1 h with rfl|h
  ·exact hs.1
  ·exact c4S hs.2 X h
theorem b6e{H':AHeap}{anc:Nat}:∀ {ds:List r5} {j:Nat},b9d P E ops H' anc j ds→∀(i:Nat) (d:r5),ds[i]? =some d→d.hi=1→anc.testBit (j+i)=false→b1m P E ops d.T H' d.o=some d.v
 | [],j,_,i,d,h,_,_=>by simp at h
 |x::ds,j,hs,i,d,h,h1,h2=>by
  simp only[b9d]at hs
  cases i with
  |zero=>
   simp at h
   subst h
   rw[if_pos (by simp[h1];simpa using h2)]at hs
   exact hs.1
  |succ i=>
   have h':ds[i]? =some d:=by simpa using h
   have hb:anc.testBit (j+1+i)=false:=by rw[←h2];congr 1;omega
   split at hs
   ·exact b6e hs.2 i d h' h1 hb
   ·exact b6e hs i d h' h1 hb
theorem d7f{anc k:Nat}:∀ {ds:List r5} {j m:Nat},m≤k→(∀(x:Nat) (e:r5),ds[x]? =some e→e.wr=true→anc.testBit (j+x)=true→e.lo<k)→c5z anc j ds m≤k
 | [],j,m,h,_=>h
 |d::ds,j,m,h,hx=>by
  simp only[c5z]
  refine d7f ?_ fun x e he hw hb=>hx (x+1) e (by simpa using he) hw (by rw[←hb];congr 1;omega)
  split
  ·rename_i hc
   simp only[Bool.and_eq_true]at hc
   have:=hx 0 d rfl hc.1 (by simpa using hc.2)
   omega
  ·exact h
theorem b3Q.snoc{T0:List AV}{gs gs':Nat→AHeap}{ds:List r5}{n n':Nat}(G:b3Q P E w0 ops T0 gs ds n)(hg:∀k,k≤n→gs' k=gs k){o:Oper}(ho:ops[ds.length]? =some o){anc:Nat}
  (hanc:a1A ds o.after.toList 0=some anc) (hap:b2h (fun j e=>anc.testBit j||o.apart ops e.o) 0 ds=true) {v:AV} {kd:Nat} {wr:Bool} (hn:n'=if wr then n+1 else n)
  (hwr:wr=true→b2h (fun j e=> !e.wr||anc.testBit j) 0 ds=true∧a4g P E w0 ops (A9 (fun _=>true) 0 ds T0) (gs' n) o (fun v' H'=>v'=v∧H'=gs' (n+1))∧
   ∀(i:Nat) (d:r5),ds[i]? =some d→d.wr=false→anc.testBit i=false→b1m P E ops d.T (gs' (n+1)) d.o=some d.v)
  (hrd:wr=false→r9 P o≤1∧∀k,k≤n→(∀(j:Nat) (e:r5),ds[j]? =some e→e.wr=true→anc.testBit j=true→e.lo<k)→b1m P E ops (A9 (fun _=>true) 0 ds T0) (gs' k) o=some v):
  b3Q P E w0 ops T0 gs' (ds++[⟨o,anc,A9 (fun _=>true) 0 ds T0,v,n,kd,wr,[]⟩]) n':=by
 have hnn:n≤n':=by rw[hn];split<;>omega
 refine⟨?_, ?_, ?_, ?_, ?_, ?_, ?_, ?_, ?_⟩
 ·intro i d hd
  rcases y8 hd with ⟨h1,h2⟩|⟨rfl,rfl⟩
  ·exact G.op i d h2
  ·exact ho
 ·intro i d hd
  rcases y8 hd with ⟨h1,h2⟩|⟨rfl,rfl⟩
  ·rw[List.take_append_of_le_length (by omega)];exact G.anc i d h2
  ·rw[List.take_append_of_le_length (by omega),List.take_length];exact hanc
 ·intro i d hd
  rcases y8 hd with ⟨h1,h2⟩|⟨rfl,rfl⟩
  ·rw[List.take_append_of_le_length (by omega)];exact G.old i d h2
  ·rw[List.take_append_of_le_length (by omega),List.take_length]
 ·intro i j d e hj hd he
  rcases y8 hd with ⟨h1,h2⟩|⟨rfl,rfl⟩
  ·rcases y8 he with ⟨h3,h4⟩|⟨rfl,rfl⟩
   ·exact G.apart i j d e hj h2 h4
   ·omega
  ·rcases y8 he with ⟨h3,h4⟩|⟨rfl,rfl⟩
   ·have:=a3u hap j e h4
    simpa using this
   ·omega
 ·intro i j d e hj hd he hdw hew
  rcases y8 hd with ⟨h1,h2⟩|⟨rfl,rfl⟩
  ·rcases y8 he with ⟨h3,h4⟩|⟨rfl,rfl⟩
   ·exact G.chain i j d e hj h2 h4 hdw hew
   ·omega
  ·rcases y8 he with ⟨h3,h4⟩|⟨rfl,rfl⟩
   ·have:=a3u (hwr hdw).1 j e h4
    simp[hew]at this
    exact⟨this,(G.lo j e h4).2.1 hew⟩
   ·omega
 ·intro k hk
  by_cases hkn:k<n
  ·obtain⟨j,e,h1,h2⟩:=G.full k hkn
   exact⟨j,e,by rw[List.getElem?_append_left (List.getElem?_eq_some_iff.1 h1).1];exact h1,h2⟩
  ·cases wr with
   |false=>simp at hn;omega
   |true=>
    simp at hn
    exact⟨ds.length,_,by simp;rfl,rfl,by simp;omega⟩
 ·intro i d hd
  have lift:∀m,(∀k,k<m→∃(j:Nat) (e:r5),j<i∧ds[j]? =some e∧e.wr=true∧e.lo=k)→∀k,k<m→∃(j:Nat) (e:r5),j<i∧(ds++[⟨o,anc,A9 (fun _=>true) 0 ds T0,v,n,kd,wr,[]⟩])[j]? =some e∧e.wr=true∧e.lo=k:=by
   intro m h k hk
   obtain⟨j,e,h0,h1,h2⟩:=h k hk
   exact⟨j,e,h0,by rw[List.getElem?_append_left (List.getElem?_eq_some_iff.1 h1).1];exact h1,h2⟩
  rcases y8 hd with ⟨h1,h2⟩|⟨rfl,rfl⟩
  ·obtain⟨a,b,c⟩:=G.lo i d h2
   exact⟨by omega,fun hw=>by have:=b hw;omega,lift _ c⟩
  ·refine⟨hnn,fun hw=> ?_,lift _ fun k hk=> ?_⟩
   ·simp only at hw
    subst hw
    simp at hn
    simp only
    omega
   ·obtain⟨j,e,h1,h2⟩:=G.full k hk
    exact⟨j,e,(List.getElem?_eq_some_iff.1 h1).1,h1,h2⟩
 ·intro i d hd hw
  rcases y8 hd with ⟨h1,h2⟩|⟨rfl,rfl⟩
  ·have:=(G.lo i d h2).2.1 hw
   rw[hg _ (by omega),hg _ (by omega)]
   exact G.writes i d h2 hw
  ·exact(hwr hw).2.1
 ·intro i d hd hw
  have cut:∀ {k} {dd:r5},(∀(j:Nat) (e:r5),(ds++[⟨o,anc,A9 (fun _=>true) 0 ds T0,v,n,kd,wr,[]⟩])[j]? =some e→e.wr=true→(dd.anc.testBit j=true→e.lo<k)∧(e.lo<k→e.anc.testBit i=false))→
    (∀(j:Nat) (e:r5),ds[j]? =some e→e.wr=true→(dd.anc.testBit j=true→e.lo<k)∧(e.lo<k→e.anc.testBit i=false)):=by
   intro k dd h j e he
   exact h j e (by rw[List.getElem?_append_left (List.getElem?_eq_some_iff.1 he).1];exact he)
  rcases y8 hd with ⟨h1,h2⟩|⟨rfl,rfl⟩
  ·obtain⟨a,b⟩:=G.reads i d h2 hw
   refine⟨a,fun k hk hc=> ?_⟩
   by_cases hkn:k≤n
   ·rw[hg k hkn]
    exact b k hkn (cut hc)
   ·cases wr with
    |false=>simp at hn;omega
    |true=>
     simp at hn
     have hk':k=n+1:=by omega
     subst hk'
     have:=(hc ds.length _ (by simp;rfl) rfl).2 (by simp)
     exact(hwr rfl).2.2 i d h2 hw this
  ·simp only at hw
   subst hw
   simp at hn
   subst hn
   obtain⟨a,b⟩:=hrd rfl
   exact⟨a,fun k hk hc=>b k hk fun j e he hew hb=>(cut hc j e he hew).1 hb⟩
theorem a9a{T0:List AV}{H0:AHeap}:∀(l:List Oper) (ds:List r5) (H:AHeap) (older:List AHeap) (Q:List AV→AHeap→Prop),b7b P E w0 ops l ds (A9 (fun _=>true) 0 ds T0) H older Q→
  b3Q P E w0 ops T0 (gl (H::older)) ds older.length→gl (H::older) 0=H0→ops.toList.drop ds.length=l→(∀(i:Nat) (d:r5),ds[i]? =some d→d.wr=false→d.hi≠1→r9 P d.o=0∧∃G,b1m P E ops d.T G d.o=some d.v)→
  ∃(dsF:List r5) (gs:Nat→AHeap) (n:Nat),b3Q P E w0 ops T0 gs dsF n∧dsF.length=ops.size∧gs 0=H0∧Q (A9 (fun _=>true) 0 dsF T0) (gs n)
 | [],ds,H,older,Q,h,G,h0,hl,hp=>by
  have hlen:ds.length=ops.size:=by
   have h1:=List.drop_eq_nil_iff.1 hl
   simp only[Array.length_toList]at h1
   refine Nat.le_antisymm ?_ h1
   refine Nat.le_of_not_lt fun hlt=> ?_
   have:=G.op ops.size (ds[ops.size]'hlt) (List.getElem?_eq_getElem hlt)
   simp at this
  exact⟨ds,_,_,G,hlen,h0,by rw[d4E rfl];exact h⟩
 |o::l,ds,H,older,Q,h,G,h0,hl,hp=>by
  have hlz:ds.length<ops.size:=by
   have:=congrArg List.length hl
   simp at this
   omega
  have ho:ops[ds.length]? =some o:=by
   have:(ops.toList.drop ds.length)[0]? =some o:=by rw[hl];rfl
   rw[List.getElem?_drop]at this
   simpa using this
  have hdr:∀d,ops.toList.drop (ds++[d]).length=l:=by
   intro d
   have:=congrArg List.tail hl
   rw[List.tail_drop]at this
   simpa using this
  have hrow:∀d:r5,K1 (A9 (fun _=>true) 0 ds T0) d.o.dst d.v=A9 (fun _=>true) 0 (ds++[d]) T0:=by
   intro d
   rw[a9P,if_pos rfl]
  simp only[b7b]at h
  split at h
  ·cases h
  ·rename_i anc hanc
   split at h
   ·rename_i hap
    split at h
    ·rename_i hk
     unfold b7 at h
     split at h
     ·rename_i v hv
      have hT:=hrow ⟨o,anc,A9 (fun _=>true) 0 ds T0,v,older.length,0,false,[]⟩
      simp only at hT
      simp only[hT]at h
      refine a9a l _ H older Q h (G.snoc (n':=older.length) (fun _ _=>rfl) ho hanc hap (by simp) (fun e=>by cases e) fun _=>⟨by omega,fun k hk' hc=>d0V hk hv _⟩) h0 (hdr _) ?_
      intro i d hd hw hh
      rcases y8 hd with ⟨h1,h2⟩|⟨rfl,rfl⟩
      ·exact hp i d h2 hw hh
      ·exact⟨hk,_,hv⟩
     ·cases h
    ·rename_i hk
     unfold b7 at h
     split at h
     ·rename_i v hv
      obtain⟨hs,h⟩:=h
      have hT:=hrow ⟨o,anc,A9 (fun _=>true) 0 ds T0,v,older.length,1,false,[]⟩
      simp only at hT
      simp only[hT]at h
      refine a9a l _ H older Q h (G.snoc (n':=older.length) (fun _ _=>rfl) ho hanc hap (by simp) (fun e=>by cases e) fun _=>⟨by omega,fun k hk' hc=> ?_⟩) h0 (hdr _) ?_
      ·by_cases hkn:k=older.length
       ·rw[d4E hkn];exact hv
       ·refine c4S hs _ ?_
        have hlo:c5z anc 0 ds 0≤k:=d7f (Nat.zero_le _) fun x e he hw hb=>hc x e he hw (by simpa using hb)
        rw[d6n (by omega)]
        unfold gl
        rw[List.getD_eq_getElem?_getD,List.getElem?_reverse (by omega)]
        rw[List.mem_iff_getElem?]
        refine⟨older.length - 1 - k, ?_⟩
        rw[List.getElem?_take,if_pos (by omega),List.getElem?_eq_getElem (by omega)]
        rfl
      ·intro i d hd hw hh
       rcases y8 hd with ⟨h1,h2⟩|⟨rfl,rfl⟩
       ·exact hp i d h2 hw hh
       ·exact(hh rfl).elim
     ·cases h
    ·split at h
     ·rename_i hwrs
      obtain⟨v,H',⟨hag,h⟩,hst⟩:=h.det
      have hT:=hrow ⟨o,anc,A9 (fun _=>true) 0 ds T0,v,older.length,2,true,[]⟩
      simp only at hT
      simp only[hT]at h
      refine a9a l _ H' (H::older) Q h (G.snoc (n':=older.length+1) (fun k hk=>d6n (by simp;omega)) ho hanc hap (by simp) (fun _=>⟨hwrs, ?_, ?_⟩) fun e=>by cases e) ?_ (hdr _) ?_
      ·rw[d6n (by simp),d4E rfl,d4E (by simp)]
       exact hst
      ·intro i d hd hw hb
       rw[d4E (by simp)]
       by_cases h1:d.hi=1
       ·exact b6e hag i d hd h1 (by simpa using hb)
       ·obtain⟨k1,G1,k2⟩:=hp i d hd hw h1
        exact d0V k1 k2 _
      ·rw[d6n (by simp)];exact h0
      ·intro i d hd hw hh
       rcases y8 hd with ⟨h1,h2⟩|⟨rfl,rfl⟩
       ·exact hp i d h2 hw hh
       ·cases hw
     ·cases h
   ·cases h
structure Mid (E:j6) (w0:World) (ops:Array Oper) (dsF:List r5) (gs:Nat→AHeap) (n:Nat) (H0:AHeap) (T0:List AV) (ρ0:B7) (defs:List Deferred) (L:Array Bool) (a:Act) (w:World) (ρ:B7) (m:Nat):Prop where
 size:L.size=ops.size
 nx:Nx ρ0 ρ H0 (gs m)
 row:w5 ρ (A9 (J7 L) 0 dsF T0) a.tmps.toList
 rep:K9 E w0 (gs m) w ρ
 defs:a.defers=defs
 closed:b6u dsF L
 le:m≤n
 cnt:∀(j:Nat) (e:r5),dsF[j]? =some e→e.wr=true→(J7 L j=true↔e.lo<m)
theorem b3Q.ready_anc{T0:List AV}{gs:Nat→AHeap}{ds:List r5}{n:Nat}(G:b3Q P E w0 ops T0 gs ds n){L:Array Bool}(hcl:b6u ds L){i:Nat}{d:r5}(hd:ds[i]? =some d)
  (ha:∀e∈d.o.after,Region.binds .any e=true→L.getD e.on false=true):∀j,d.anc.testBit j=true→J7 L j=true:=by
 refine b2e (S:=fun j=>J7 L j=true) _ _ _ (G.anc i d hd) (fun j hj=>by simp at hj) ?_
 intro e he hb
 have h1:J7 L e.on=true:=ha e (by simpa using he) hb
 refine⟨h1,fun d' hd' j hj=> ?_⟩
 rw[List.getElem?_take]at hd'
 split at hd'
 ·exact hcl _ _ hd' h1 j hj
 ·cases hd'
theorem b3Q.agree{T0:List AV}{gs:Nat→AHeap}{ds:List r5}{n:Nat}(G:b3Q P E w0 ops T0 gs ds n){L:Array Bool}(hcl:b6u ds L){i:Nat}{d:r5}(hd:ds[i]? =some d)
  (hi:J7 L i=false) (ha:∀j,d.anc.testBit j=true→J7 L j=true):c4x ops d.o (A9 (J7 L) 0 ds T0) d.T:=by
 intro t ht
 rw[G.old i d hd,a9K]
 refine b0F ds 0 T0 T0 ?_ rfl
 intro x e he hne hdst
 simp only[Nat.zero_add]at hne
 by_cases hxi:x<i
 ·have:J7 L x=false:=by
   cases hb:J7 L x with
   |false=>rfl
   |true=>rw[hb]at hne;exact(hne (by simp[hxi])).elim
  rcases G.apart i x d e hxi hd he with h|h
  ·have:=ha x h;simp_all
  ·exact(Oper.apart_spec h).2.2 t hdst ht
 ·have hx:J7 L x=true:=by
   cases hb:J7 L x with
   |true=>rfl
   |false=>rw[hb]at hne;exact(hne (by simp[hxi])).elim
  have hix:i<x:=by
   have:x≠i:=by rintro rfl;rw[hi]at hx;cases hx
   omega
  rcases G.apart x i e d hix he hd with h|h
  ·have:=hcl x e he hx i h;rw[hi]at this;cases this
  ·exact(Oper.apart_spec h).1 t hdst ht
theorem b7s{T:List AV}{H:AHeap}{o:Oper}{v:AV}{H':AHeap}(h:a9d P E w0 ops T H o fun v' H''=>v'=v∧H''=H'):a4g P E w0 ops T H o fun v' H''=>v'=v∧H''=H':=by
 obtain⟨v1,H1,⟨rfl,rfl⟩,h2⟩:=h.det
 exact h2
theorem d3l{T0:List AV}{gs:Nat→AHeap}{ds:List r5}{n:Nat}(G:b3Q P E w0 ops T0 gs ds n)(hlen:ds.length=ops.size){ρ0:B7}(hf:P4 ρ0 (gs 0)){defs:List Deferred}
  {L:Array Bool} {a:Act} {w:World} {ρ:B7} {m:Nat} (I:Mid E w0 ops ds gs n (gs 0) T0 ρ0 defs L a w ρ m) {i:Nat} (hr:i∈Region.ready .any ops L)
  {K:Act→World→Prop} {Q:Exit→Act→World→Prop} (hK:∀a' w' ρ' m',Mid E w0 ops ds gs n (gs 0) T0 ρ0 defs (L.setIfInBounds i true) a' w' ρ' m'→K a' w'):wpOp P ops Q i K a w:=by
 obtain⟨hi0,o,ho,hedge⟩:=mem_ready.1 hr
 have hil:i<ops.size:=(Array.getElem?_eq_some_iff.1 ho).1
 have hi:J7 L i=false:=by
  unfold J7
  have hsz:=I.size
  rw[Array.getD_eq_getD_getElem?]at hi0 ⊢
  rw[Array.getElem?_eq_getElem (by omega)]at hi0 ⊢
  exact hi0
 obtain⟨d,hd⟩:∃d,ds[i]? =some d:=⟨ds[i]'(by omega),List.getElem?_eq_getElem (by omega)⟩
 have hdo:d.o=o:=by
  have:=G.op i d hd
  rw[ho]at this
  exact(Option.some.inj this).symm
 subst hdo
 have ha:=G.ready_anc I.closed hd hedge
 have hag:=G.agree I.closed hd hi ha
 have hdst:∀(m:Nat) (e:r5),i<m→ds[m]? =some e→J7 L m=true→∀x,d.o.dst=some x→e.o.dst≠some x:=by
  intro m e him he hm x hx hx'
  rcases G.apart m i e d him he hd with h|h
  ·have:=I.closed m e he hm i h;rw[hi]at this;cases this
  ·exact(Oper.apart_spec h).2.1 x hx' hx
 have hisL:J7 (L.setIfInBounds i true)=fun x=>x==0+i||J7 L x:=by
  funext x
  rw[a4k (by rw[I.size];exact hil),Nat.zero_add]
 have fin:∀(m':Nat) (ρ':B7) (vv:Value) (w':World),m≤m'→m'≤n→Nx ρ ρ' (gs m) (gs m')→rel ρ' d.v vv→K9 E w0 (gs m') w' ρ'→
   (∀(j:Nat) (e:r5),ds[j]? =some e→e.wr=true→(J7 (L.setIfInBounds i true) j=true↔e.lo<m'))→K (a.put d.o.dst vv) w':=by
  intro m' ρ' vv w' g0 g1 g2 g3 g4 g5
  refine hK _ _ ρ' m' ⟨by rw[Array.size_setIfInBounds];exact I.size,I.nx.trans g2, ?_,g4,by rw[b3I];exact I.defs, ?_,g1,g5⟩
  ·rw[hisL,b2A ds 0 i T0 hd (by rw[Nat.zero_add];exact hi) (by simpa using hdst)]
   exact a5C (L5 g2.1 _ _ I.row) g3
  ·intro j e he hj x hx
   rw[hisL]at hj ⊢
   simp only[Nat.zero_add,Bool.or_eq_true,beq_iff_eq]at hj ⊢
   rcases hj with rfl|hj
   ·rw[hd]at he;cases he
    exact .inr (ha x hx)
   ·exact .inr (I.closed j e he hj x hx)
 have hfm:P4 ρ (gs m):=hf.step I.nx
 cases hw:d.wr with
 |true=>
  have hlo:d.lo=m:=by
   have h1:¬d.lo<m:=fun h=>by
    have:=(I.cnt i d hd hw).2 h
    rw[hi]at this;cases this
   refine Nat.le_antisymm ?_ (Nat.le_of_not_lt h1)
   refine Nat.le_of_not_lt fun h=> ?_
   obtain⟨j,e,h2,h3,h4,h5⟩:=(G.lo i d hd).2.2 m h
   have h6:=(G.chain i j d e h2 hd h3 hw h4).1
   have:=(I.cnt j e h3 h4).1 (ha j h6)
   omega
  have hst:=G.writes i d hd hw
  rw[hlo]at hst
  have hlt:=(G.lo i d hd).2.1 hw
  refine a6a (b6F (fun t ht=>(hag t ht).symm) hst) ho I.rep I.row hfm ?_
  rintro v H' ρ' vv w' ⟨rfl,rfl⟩ g1 g2 g3
  refine fin (m+1) ρ' vv w' (by omega) (by omega) g1 g2 g3 ?_
  intro j e he hew
  rw[hisL]
  simp only[Nat.zero_add,Bool.or_eq_true,beq_iff_eq]
  constructor
  ·rintro(rfl|h)
   ·rw[hd]at he;cases he;omega
   ·have:=(I.cnt j e he hew).1 h;omega
  ·intro h
   by_cases hji:j=i
   ·exact .inl hji
   ·right
    refine(I.cnt j e he hew).2 ?_
    have:e.lo≠m:=by
     intro h1
     rcases Nat.lt_or_gt_of_ne hji with h2|h2
     ·have:=(G.chain i j d e h2 hd he hw hew).2;omega
     ·have:=(G.chain j i e d h2 he hd hew hw).2;omega
    omega
 |false=>
  obtain⟨hk,hv⟩:=G.reads i d hd hw
  have hval:=hv m I.le fun j e he hew=>⟨fun hb=>(I.cnt j e he hew).1 (ha j hb),fun hlt=>by
   have h1:=(I.cnt j e he hew).2 hlt
   cases hb:e.anc.testBit i with
   |false=>rfl
   |true=>have:=I.closed j e he h1 i hb;rw[hi]at this;cases this⟩
  refine a6a (b6F (fun t ht=>(hag t ht).symm) (b7s (b3j (w0:=w0) hk hval))) ho I.rep I.row hfm ?_
  rintro v H' ρ' vv w' ⟨rfl,rfl⟩ g1 g2 g3
  refine fin m ρ' vv w' (Nat.le_refl _) I.le g1 g2 g3 ?_
  intro j e he hew
  rw[hisL]
  simp only[Nat.zero_add,Bool.or_eq_true,beq_iff_eq]
  constructor
  ·rintro(rfl|h)
   ·rw[hd]at he;cases he;rw[hw]at hew;cases hew
   ·exact(I.cnt j e he hew).1 h
  ·intro h
   exact .inr ((I.cnt j e he hew).2 h)
theorem b3Q.all_listed{T0:List AV}{gs:Nat→AHeap}{ds:List r5}{n:Nat}(G:b3Q P E w0 ops T0 gs ds n)(hlen:ds.length=ops.size){L:Array Bool}(hsz:L.size=ops.size)(h:Region.ready .any ops L=[]):∀(N j:Nat),j<N→j<ops.size→J7 L j=true
 |0,j,h,_=>by omega
 |N+1,j,hj,hjs=>by
  cases hb:J7 L j with
  |true=>rfl
  |false=>
   have hm:j∈Region.ready .any ops L:=by
    rw[mem_ready]
    refine⟨?_,ops[j],Array.getElem?_eq_getElem hjs,fun e he hbn=> ?_⟩
    ·unfold J7 at hb
     rw[Array.getD_eq_getD_getElem?]at hb ⊢
     rw[Array.getElem?_eq_getElem (by omega)]at hb ⊢
     exact hb
    ·have hd:ds[j]? =some (ds[j]'(by omega)):=List.getElem?_eq_getElem (by omega)
     have hop:=G.op j _ hd
     rw[Array.getElem?_eq_getElem hjs]at hop
     rw[Option.some.inj hop]at he
     have hon:=b5C _ _ _ (G.anc j _ hd) e (by simpa using he) hbn
     rw[List.length_take]at hon
     exact b3Q.all_listed G hlen hsz h N e.on (by omega) (by omega)
   rw[h]at hm
   cases hm
theorem d7c{T0:List AV}{gs:Nat→AHeap}{ds:List r5}{n:Nat}(G:b3Q P E w0 ops T0 gs ds n)(hlen:ds.length=ops.size){ρ0:B7}(hf:P4 ρ0 (gs 0)){defs:List Deferred}{Q:Exit→Act→World→Prop}
  (hQ:∀L a w ρ m,Mid E w0 ops ds gs n (gs 0) T0 ρ0 defs L a w ρ m→(∀i,i<ops.size→J7 L i=true)→Q .normal a w):
  ∀(fuel:Nat) (L:Array Bool) (a:Act) (w:World) (ρ:B7) (m:Nat),Mid E w0 ops ds gs n (gs 0) T0 ρ0 defs L a w ρ m→unl ops.size L≤fuel→wpAny P .any ops Q fuel L a w
 |0,L,a,w,ρ,m,I,hfu=>by
  have hall:=b5A (n:=ops.size) (L:=L) (by omega)
  refine⟨?_,hQ L a w ρ m I hall⟩
  rw[List.eq_nil_iff_forall_not_mem]
  intro i hi
  obtain⟨hi0,o,ho,_⟩:=mem_ready.1 hi
  have hil:i<ops.size:=(Array.getElem?_eq_some_iff.1 ho).1
  have h1:=hall i hil
  unfold J7 at h1
  have hsz:=I.size
  rw[Array.getD_eq_getD_getElem?,Array.getElem?_eq_getElem (by omega)]at hi0 h1
  simp only[Option.getD_some]at hi0 h1
  rw[h1]at hi0;cases hi0
 |fuel+1,L,a,w,ρ,m,I,hfu=>by
  refine⟨fun hr=>hQ L a w ρ m I fun i hi=>G.all_listed hlen I.size hr (i+1) i (by omega) hi,fun i hi=> ?_⟩
  refine d3l G hlen hf I hi ?_
  intro a' w' ρ' m' I'
  refine d7c G hlen hf hQ fuel _ a' w' ρ' m' I' ?_
  obtain⟨hi0,o,ho,_⟩:=mem_ready.1 hi
  have hil:i<ops.size:=(Array.getElem?_eq_some_iff.1 ho).1
  have hsz:=I.size
  have hb:J7 L i=false:=by
   unfold J7
   rw[Array.getD_eq_getD_getElem?,Array.getElem?_eq_getElem (by omega)]at hi0 ⊢
   exact hi0
  have:=c1M (n:=ops.size) hil (by omega) hb
  omega
theorem d5w(hm:P.follows .mixedOrders=true){id:Nat}{T:List AV}{H:AHeap}{Q:o6→List AV→AHeap→Prop}(h:b7b P E w0 ops ops.toList [] T H [] (Q .normal)):H9 P E w0 (.region id ops true) T H Q:=by
 intro w ρ a R hR hf hT hk
 obtain⟨ds,gs,n,G,hlen,h0,hq⟩:=a9a (T0:=T) (H0:=H) ops.toList [] H [] (Q .normal) h b3Q.nil' rfl rfl (fun i d hd=>by simp at hd)
 subst h0
 refine wp_region_any hm ?_
 have hL:∀m,J7 (Array.replicate ops.size false) m=false:=by
  intro m
  unfold J7
  rw[Array.getD_eq_getD_getElem?,Array.getElem?_replicate]
  split<;>rfl
 refine d7c G hlen hf (defs:=a.defers) ?_ ops.size _ a _ ρ 0 ?_ ?_
 ·intro L a' w' ρ' m I hall
  have hmn:m=n:=by
   refine Nat.le_antisymm I.le (Nat.le_of_not_lt fun hlt=> ?_)
   obtain⟨j,e,h1,h2,h3⟩:=G.full m hlt
   have:=(I.cnt j e h1 h2).1 (hall j (by rw[←hlen];exact(List.getElem?_eq_some_iff.1 h1).1))
   omega
  subst hmn
  have hD:∀m,0≤m→m<0+ds.length→J7 L m=(fun _=>true) m:=fun m _ h=>hall m (by omega)
  have hrow:=I.row
  rw[a3B ds 0 T hD]at hrow
  exact hk _ _ _ _ _ hq ⟨ρ',I.nx,hrow,I.rep,I.defs⟩
 ·refine⟨by simp,Nx.refl _ _, ?_,hR.heap_eq rfl,rfl, ?_,Nat.zero_le _, ?_⟩
  ·rw[a7W ds 0 T fun m _=>hL m];exact hT
  ·intro i d hd hi
   rw[hL i]at hi;cases hi
  ·intro j e he hew
   rw[hL j]
   simp
 ·unfold unl
  refine Nat.le_trans List.countP_le_length ?_
  rw[List.length_range]
  exact Nat.le_refl _
end
end Go.Am
end
