/-
  BlocksReachesSaid: part Mbb of its proof.
-/
import Derived.Test.YtdkidgkiplcggaaMba
import Derived.Test.YtdkidgkiplcggaaRows
import Derived.Test.YtdkidgkiplcggaaMar
import Derived.KernelRfl
import Derived.Test.YtdkidgkiplcggaaMaw
set_option linter.unusedVariables false
set_option linter.unusedSimpArgs false
set_option maxRecDepth 100000
section
open Go.Proofs Go Go.Am Go.Op
namespace Go.Proofs.Ytdkidgkiplcggaa.d
section
set_option linter.unusedSectionVars false
theorem c4K{l:List Int}{n:Int}{i:Nat}(hr:l.Pairwise (· < ·))(hlo:∀(j:Nat) v,j<i→l[j]? =some v→v<n)(hhi:∀v,l[i]? =some v→n<v)(hil:i≤l.length):l.take i++n::l.drop i=a9O n l:=by
 refine a0D ?_ (a2s n l hr) fun m=> ?_
 ·have htd:(l.take i++l.drop i).Pairwise (· < ·):=by rw[List.take_append_drop];exact hr
  obtain⟨p1,p2,p3⟩:=List.pairwise_append.1 htd
  refine List.pairwise_append.2 ⟨p1,List.pairwise_cons.2 ⟨fun v hv=> ?_,p2⟩,fun a ha b hb=> ?_⟩
  ·obtain⟨k,hk⟩:=List.getElem?_of_mem hv
   rw[List.getElem?_drop]at hk
   obtain⟨v0,hv0⟩:∃v0,l[i]? =some v0:=⟨_,List.getElem?_eq_getElem (by have:=(List.getElem?_eq_some_iff.1 hk).1;omega)⟩
   have h1:=hhi _ hv0
   cases k with
   |zero=>rw[Nat.add_zero,hv0]at hk;cases hk;exact h1
   |succ k=>
    have g1:=(List.getElem?_eq_some_iff.1 hv0)
    have g2:=(List.getElem?_eq_some_iff.1 hk)
    have:=List.pairwise_iff_getElem.1 hr i (i+(k+1)) g1.1 g2.1 (by omega)
    rw[g1.2,g2.2]at this
    omega
  ·have ha':a<n:=by
    obtain⟨k,hk⟩:=List.getElem?_of_mem ha
    rw[List.getElem?_take]at hk
    split at hk
    ·exact hlo k a (by assumption) hk
    ·cases hk
   rcases List.mem_cons.1 hb with rfl|hb
   ·exact ha'
   ·exact p3 a ha b hb
 ·rw[V8]
  conv=>rhs;rw[←List.take_append_drop i l]
  simp only[List.mem_append,List.mem_cons]
  constructor
  ·rintro(h|h|h)
   ·exact .inr (.inl h)
   ·exact .inl h
   ·exact .inr (.inr h)
  ·rintro(h|h|h)
   ·exact .inr (.inl h)
   ·exact .inl h
   ·exact .inr (.inr h)
theorem c0a{l:List Int}{n:Int}(hr:l.Pairwise (· < ·))(hn:n∈l):a9O n l=l:=
 a0D (a2s n l hr) hr fun m=>by
  rw[V8]
  exact⟨fun h=>h.elim (fun e=>by rw[e];exact hn) id, .inr⟩
def a4O(l:List Int)(i:Nat)(cur:List Int):Prop:=cur.length=l.length+1∧(∀j:Nat,j≤i→j<l.length→cur[j]? =l[j]?)∧∀j:Nat,i<j→j≤l.length→cur[j]? =l[j - 1]?
theorem a4O.start(l:List Int):a4O l l.length (l++[0]):=⟨by simp,fun j _ hj=>List.getElem?_append_left hj,fun j h1 h2=>by omega⟩
theorem a4O.step{l cur:List Int}{i:Nat}(h:a4O l i cur)(hi:0<i)(hil:i≤l.length){v:Int}(hv:cur[i - 1]? =some v):a4O l (i - 1) (cur.set i v):=by
 obtain⟨h1,h2,h3⟩:=h
 refine⟨by rw[List.length_set];exact h1,fun j hj hjl=> ?_,fun j hj hjl=> ?_⟩
 ·rw[List.getElem?_set_ne (by omega)]
  exact h2 j (by omega) hjl
 ·by_cases e:j=i
  ·subst e
   rw[List.getElem?_set_self (by omega), ←hv,h2 (j - 1) (by omega) (by omega)]
  ·rw[List.getElem?_set_ne (fun h=>e h.symm)]
   exact h3 j (by omega) hjl
theorem a4O.done{l cur:List Int}{i:Nat}(h:a4O l i cur)(hil:i≤l.length)(n:Int):cur.set i n=l.take i++n::l.drop i:=by
 obtain⟨h1,h2,h3⟩:=h
 apply List.ext_getElem?
 intro j
 have hti:(l.take i).length=i:=by rw[List.length_take];omega
 rcases Nat.lt_trichotomy j i with hj|hj|hj
 ·rw[List.getElem?_set_ne (by omega),List.getElem?_append_left (by omega),List.getElem?_take,if_pos hj]
  exact h2 j (by omega) (by omega)
 ·subst hj
  rw[List.getElem?_set_self (by omega),List.getElem?_append_right (by omega),hti,Nat.sub_self];rfl
 ·rw[List.getElem?_set_ne (by omega),List.getElem?_append_right (by omega),hti]
  obtain⟨k,rfl⟩:∃k,j=i+k+1:=⟨j - i - 1,by omega⟩
  rw[show i+k+1 - i=k+1 by omega,List.getElem?_cons_succ,List.getElem?_drop]
  by_cases hle:i+k+1≤l.length
  ·rw[h3 _ (by omega) hle];rfl
  ·rw[List.getElem?_eq_none (by omega),List.getElem?_eq_none (by omega)]
section
variable{E:d6}{w0:i5}
theorem a8S{d:D}{l:List Int}{q:Int}(hl:l.length<2^40){S:b4}(hr:RdI S d l):r8 Try.prog E w0 a3d [d, .int .i64 q] S fun v S'=>v= .bool (decide (q∈l))∧S'=S:=by
 refine b2U ?_
 unfold b1K
 refine b0p (I:=fun n x0 x1 x5 S'=>S'=S∧x0=d∧x1= .int .i64 q∧∃i:Nat,x5= .int .i64 (i:Int)∧i+n=l.length∧q ∉ l.take i) ?_ (n:=l.length) ⟨rfl,rfl,rfl,0,rfl,by omega,by simp⟩
 rintro n _ _ _ S' ⟨hS,rfl,rfl,i,rfl,hi,ht⟩
 subst hS
 unfold a3J
 rw[hr.1,oD,V6,oD,cdI]
 refine⟨fun hlt=> ?_,fun hge=> ?_⟩
 ·have hlt:i<l.length:=by omega
  have ea:l[i]? =some l[i]:=List.getElem?_eq_getElem hlt
  generalize l[i]=x at ea
  obtain⟨p,p1,p2⟩:=hr.2 i x ea
  rw[p1,oD,p2,oD,a4e,oD,cdI]
  refine⟨fun he=> ?_,fun hne=> ?_⟩
  ·rw[decide_eq_true (by rw[←he];exact List.mem_of_getElem? ea)]
   exact b9.pure
  ·rw[C6,oD,g9 (by omega) (by omega)]
   refine⟨n - 1,by omega,by trivial,by trivial,by trivial,i+1,rfl,by omega, ?_⟩
   rw[List.take_add_one,ea]
   simp only[Option.toList,List.mem_append,List.mem_singleton,not_or]
   exact⟨ht,fun e=>hne e.symm⟩
 ·rw[List.take_of_length_le (by omega)]at ht
  rw[decide_eq_false ht]
  exact b9.pure
theorem b9F{S0 T:b4}{av:List Nat}{d:D}{l:List Int}(h:Sl S0 av d l T){i:Nat}(hi:i<l.length){n:Int}:∃p,j5 1 d (.int .i64 (i:Int))=some p∧∀K:D→b4→Prop,(∀T',(∀j,j ∉ ob d→T' j=T j)→Sl S0 av d (l.set i n) T'→K a8 T')→j4 T 1 p (.int .i64 n) K:=by
 obtain⟨p,p1,_⟩:=c3w h hi (n:=n) (K:=fun _ _=>True) fun _ _ _=>trivial
 refine⟨p,p1,fun K hK=> ?_⟩
 obtain⟨q,q1,q2⟩:=c3w h hi hK
 rw[p1]at q1
 cases q1
 exact q2
theorem b7U{S0 T:b4}{av:List Nat}{d:D}{l:List Int}{n:Int}(h:Sl S0 av d l T)(hle:S0.le T)(hav:∀j∈av,T j≠none)(hr:l.Pairwise (· < ·))(hl:l.length<2^39){i:Nat}(hil:i≤l.length)(hlo:∀(j:Nat) v,j<i→l[j]? =some v→v<n)(hhi:∀v,l[i]? =some v→n<v){Q:D→b4→Prop}
  (hQ:∀d' S',S0.le S'→(∀j∈av,S' j=T j)→Sl S0 av d' (a9O n l) S'→Q d' S'):
  I4 T 1 (s4 1 (List.replicate 1 [D.int .i64 0]) [(0,D.int .i64 0)]) 1 fun v19 S20=>s0 S20 1 8 d v19 fun v21 S22=>b5 (m6 v21) fun v23=>b5 (d4 .sub v23 (D.int .i64 1)) fun v24=>
   b8 Try.prog E w0 (.loop a0n) (d8 58 [0,1,5,6] [v21, .int .i64 n, .int .i64 (i:Int),v24]) S22 (Z8 E w0 (b9 E Q)):=by
 rw[show s4 1 (List.replicate 1 [D.int .i64 0]) [(0,D.int .i64 0)]=some (iC [0]) from rfl]
 refine I8 (rows:=iC [0]) rfl ?_
 refine h.push (news:=[0]) hle hav (by simp[rowsS,E0,iC]) (by simp;omega) fun d' T' hle' hsame hs=> ?_
 have hln:(l++[0]).length=l.length+1:=by simp
 rw[hs.len,oD,a3V,oD,hln,g9 (by omega) (by omega),show((l.length+1:Nat):Int) - 1=(l.length:Int) by omega]
 refine b0b (I:=fun m x0 x1 x5 x6 T2=>x0=d'∧x1= .int .i64 n∧x5= .int .i64 (i:Int)∧∃(j:Nat) (cur:List Int),x6= .int .i64 (j:Int)∧j=i+m∧j≤l.length∧S0.le T2∧(∀j∈av,T2 j=T j)∧Sl S0 av d' cur T2∧a4O l j cur) ?_ (n:=l.length - i)
  ⟨rfl,rfl,rfl,l.length,_,rfl,by omega,Nat.le_refl _,hle',hsame,hs,a4O.start l⟩
 rintro m x0 _ _ _ T2 ⟨rfl,rfl,rfl,j,cur,rfl,hj,hjl,hle2,hsame2,hs2,hm⟩
 unfold a2k
 rw[b2q,oD,cdI]
 have frame:∀T3:b4,(∀j,j ∉ ob x0→T3 j=T2 j)→S0.le T3∧∀j∈av,T3 j=T j:=fun T3 h3=>by
  refine⟨fun k o e=> ?_,fun k hk=> ?_⟩
  ·rw[h3 k fun hm=>by rw[(hs2.ob_none k hm).1]at e;cases e];exact hle2 _ _ e
  ·rw[h3 k fun hm=>(hs2.ob_none k hm).2 hk];exact hsame2 k hk
 refine⟨fun hgt=> ?_,fun hng=> ?_⟩
 ·have hcl:=hm.1
  have e1:cur[j - 1]? =some cur[j - 1]:=List.getElem?_eq_getElem (by omega)
  generalize cur[j - 1]=v at e1
  obtain⟨p,p1,p2⟩:=hs2.rd.2 (j - 1) v e1
  have hj1:((j:Int) - 1)=((j - 1:Nat):Int):=by omega
  rw[a3V,oD,g9 (by omega) (by omega),hj1,p1,oD,p2,oD]
  obtain⟨q,q1,q2⟩:=b9F hs2 (i:=j) (by omega) (n:=v)
  rw[q1,oD]
  refine q2 _ fun T3 h3 hs3=> ?_
  rw[oD]
  exact⟨m - 1,by omega,by trivial,by trivial,by trivial,j - 1,_,rfl,by omega,by omega,(frame T3 h3).1,(frame T3 h3).2,hs3,hm.step (by omega) hjl e1⟩
 ·have hji:j=i:=by omega
  subst hji
  obtain⟨q,q1,q2⟩:=b9F hs2 (i:=j) (by have:=hm.1;omega) (n:=n)
  rw[q1,oD]
  refine q2 _ fun T3 h3 hs3=> ?_
  refine b9.here (hQ _ _ (frame T3 h3).1 (frame T3 h3).2 ?_)
  rw[←c4K hr hlo hhi hil, ←hm.done hil n]
  exact hs3
theorem b5o{S0 S:b4}{av:List Nat}{d:D}{l:List Int}{n:Int}(h:Sl S0 av d l S)(hle:S0.le S)(hav:∀j∈av,S j≠none)(hr:l.Pairwise (· < ·))(hl:l.length<2^39){Q:D→b4→Prop}
  (hQ:∀d' S',S0.le S'→(∀j∈av,S' j=S j)→Sl S0 av d' (a9O n l) S'→Q d' S'):r8 Try.prog E w0 a4T [d, .int .i64 n] S Q:=by
 refine b2I ?_
 unfold a9S
 refine a9R (I:=fun m x0 x1 x5 T=>T=S∧x0=d∧x1= .int .i64 n∧∃i:Nat,x5= .int .i64 (i:Int)∧i+m=l.length∧∀(j:Nat) v,j<i→l[j]? =some v→v<n) ?_ (n:=l.length) ⟨rfl,rfl,rfl,0,rfl,by omega,fun j v hj=>by omega⟩
 rintro m _ _ _ T ⟨hT,rfl,rfl,i,rfl,hi,hlo⟩
 subst hT
 unfold a2q
 rw[h.len,oD,V6,oD]
 by_cases hlt:(i:Int)<(l.length:Int)
 ·have hlt':i<l.length:=by omega
  have ea:l[i]? =some l[i]:=List.getElem?_eq_getElem hlt'
  generalize l[i]=x at ea
  obtain⟨p,p1,p2⟩:=h.rd.2 i x ea
  simp only[decide_eq_true hlt,wdB,t4,vdT,oD,p1,p2,V6,pdB,if_true]
  rw[cdI]
  refine⟨fun hx=> ?_,fun hx=> ?_⟩
  ·rw[C6,oD,g9 (by omega) (by omega)]
   refine⟨m - 1,by omega,by trivial,by trivial,by trivial,i+1,rfl,by omega,fun j v hj hv=> ?_⟩
   by_cases e:j=i
   ·subst e;rw[ea]at hv;cases hv;exact hx
   ·exact hlo j v (by omega) hv
  rw[a4e,oD,cdI]
  refine⟨fun hx2=> ?_,fun hx2=> ?_⟩
  ·refine b9.here (hQ _ _ hle (fun _ _=>rfl) ?_)
   rw[c0a hr (by rw[←hx2];exact List.mem_of_getElem? ea)]
   exact h
  ·refine b7U h hle hav hr hl (by omega) hlo (fun v hv=> ?_) hQ
   rw[ea]at hv
   cases hv
   omega
 ·simp only[decide_eq_false hlt,wdB,t3,vdF,oD,pdB,Bool.false_eq_true,if_false,cdF,V6,h.len]
  refine b7U h hle hav hr hl (by omega) hlo (fun v hv=> ?_) hQ
  rw[List.getElem?_eq_none (by omega)]at hv
  cases hv
structure b2E (l:List G8) (b0:G8) (out:List Int):Prop where
 rises:out.Pairwise (· < ·)
 is:∀n∈out,a4H l n
 first:b0.at'∈out
theorem b2E.len{l:List G8}{b0:G8}{out:List Int}(h:b2E l b0 out):out.length≤l.length:=by
 have:=a2g (h.rises.imp fun h e=>by omega) (l2:=l.map (·.at')) fun a ha=>a9t (h.is a ha)
 simpa using this
def ClB(l:List G8)(out:List Int)(i:Nat):Prop:=∀b,l[i]? =some b→r7 l b.at'=some i→b.at'∈out→∀n∈b.next,(r7 l n).isSome=true→n∈out
theorem b4G{l:List G8}{n:Int}:(r7 l n).isSome=true↔n∈l.map (·.at'):=by
 constructor
 ·intro h
  obtain⟨i,hi⟩:=Option.isSome_iff_exists.1 h
  obtain⟨c,hc,e⟩:=R3 hi
  exact List.mem_map.2 ⟨c,List.mem_of_getElem? hc,e⟩
 ·intro h
  obtain⟨c,hc,e⟩:=List.mem_map.1 h
  cases hf:r7 l n with
  |some i=>rfl
  |none=>
   unfold r7 at hf
   rw[List.findIdx?_eq_none_iff]at hf
   have:=hf c hc
   simp[e]at this
theorem c2q{l:List G8}{i:Nat}{b:G8}(h:l[i]? =some b):r7 l b.at'=some i↔b.at' ∉ (l.take i).map (·.at'):=by
 constructor
 ·intro hf hm
  obtain⟨c,hc,e⟩:=List.mem_map.1 hm
  obtain⟨j,hj⟩:=List.getElem?_of_mem hc
  rw[List.getElem?_take]at hj
  split at hj
  ·rename_i hji
   unfold r7 at hf
   rw[List.findIdx?_eq_some_iff_getElem]at hf
   obtain⟨h1,h2,h3⟩:=hf
   have:=h3 j hji
   rw[(List.getElem?_eq_some_iff.1 hj).2]at this
   simp[e]at this
  ·cases hj
 ·intro hm
  cases hf:r7 l b.at' with
  |none=>
   have:(r7 l b.at').isSome=true:=b4G.2 (List.mem_map.2 ⟨b,List.mem_of_getElem? h,rfl⟩)
   rw[hf]at this
   cases this
  |some j=>
   unfold r7 at hf
   rw[List.findIdx?_eq_some_iff_getElem]at hf
   obtain⟨h1,h2,h3⟩:=hf
   by_cases e:j=i
   ·rw[e]
   ·exfalso
    rcases Nat.lt_or_gt_of_ne e with hlt|hgt
    ·refine hm (List.mem_map.2 ⟨l[j],List.mem_of_getElem? (i:=j) (by rw[List.getElem?_take,if_pos hlt];exact List.getElem?_eq_getElem h1),by simpa using h2⟩)
    ·have:=h3 i hgt
     rw[(List.getElem?_eq_some_iff.1 h).2]at this
     simp at this
section
variable{l:List G8}{b0:G8}{S0:b4}
theorem c6P(hl:l.length<2^37){N3:D→D→D→D→D→b4→Prop}{N1:D→D→D→D→b4→Prop}{N0:D→D→D→b4→Prop}{Q:D→b4→Prop}{d:D}{out:List Int}{more:Bool}{i k:Nat}{n:Int}{T:b4}(hs:Sl S0 [] d out T)(hle:S0.le T)(hI:b2E l b0 out)
  (hN:n∈l.map (·.at')→a4H l n)
  (hgo:∀d' out' more' T',Sl S0 [] d' out' T'→S0.le T'→b2E l b0 out'→(n∈l.map (·.at')→n∈out')→(∀m∈out,m∈out')→((out'=out∧more'=more)∨(more'=true∧out.length<out'.length))→Q9 E w0 N3 N1 N0 Q (p6 l) d' (.bool more') (.int .i64 (i:Int)) (.int .i64 (k:Int)) T'):
  b8 Try.prog E w0 (.loop X5) (d8 97 [0,3,4,5,8,9,10,11] [p6 l,d, .bool more, .int .i64 (i:Int), .int .i64 (k:Int), .int .i64 n,(.bool false),(.int .i64 0)]) T (X4 E w0 N3 N1 N0 Q):=by
 refine a8e (I:=fun m x0 x3 x4 x5 x8 x9 x10 x11 T'=>T'=T∧x0=p6 l∧x3=d∧x4= .bool more∧x5= .int .i64 (i:Int)∧x8= .int .i64 (k:Int)∧x9= .int .i64 n∧∃(j:Nat) (th:Bool),x10= .bool th∧x11= .int .i64 (j:Int)∧j+m=l.length∧(th=true↔n∈(l.take j).map (·.at'))) ?_ (n:=l.length)
  ⟨rfl,rfl,rfl,rfl,rfl,rfl,rfl,0,false,rfl,rfl,by omega,by simp⟩
 rintro m _ x3 _ _ _ _ _ _ T' ⟨hT,rfl,rfl,rfl,rfl,rfl,rfl,j,th,rfl,rfl,hj,hth⟩
 subst hT
 unfold a1B
 rw[J5,oD,V6,oD,cdI]
 refine⟨fun hlt=> ?_,fun hge=> ?_⟩
 ·have hlt':j<l.length:=by omega
  have eb:l[j]? =some l[j]:=List.getElem?_eq_getElem hlt'
  generalize l[j]=b at eb
  have htk:l.take (j+1)=l.take j++[b]:=by rw[List.take_add_one,eb];rfl
  have go:∀th':Bool,(th'=true↔n∈(l.take (j+1)).map (·.at'))→Q4 E w0 (fun x0 x3_1 x4 x5 x8 x9 x10 x11 S=>∃m_1,m_1<m∧(S=T'∧x0=p6 l∧x3_1=x3∧x4= .bool more∧x5= .int .i64 (i:Int)∧x8= .int .i64 (k:Int)∧x9= .int .i64 n∧∃(j:Nat) (th:Bool),x10= .bool th∧x11= .int .i64 (j:Int)∧j+m_1=l.length∧(th=true↔n∈(l.take j).map (·.at')))) N3 N1 N0 Q (p6 l) x3 (.bool more) (.int .i64 (i:Int)) (.int .i64 (k:Int)) (.int .i64 n) (.bool th') (.int .i64 (j:Int)) T':=fun th' hh=>by
   refine a7k ?_
   unfold a4r
   rw[C6,oD,g9 (by omega) (by omega)]
   exact⟨m - 1,by omega,rfl,rfl,rfl,rfl,rfl,rfl,rfl,j+1,th',rfl,by simp,by omega,hh⟩
  rw[E7 eb,oD,ofE,oD,lsE,show(C3 b)[0+0]? =some (.int .i64 b.at') from rfl,oD,a4e,oD,cdI]
  refine⟨fun he=>go true ?_,fun he=>go th ?_⟩
  ·rw[htk,List.map_append]
   simp[he]
  ·rw[hth,htk,List.map_append]
   simp only[List.map_cons,List.map_nil,List.mem_append,List.mem_singleton]
   exact⟨.inl,fun h=>h.elim id fun e=>absurd e.symm he⟩
 ·rw[List.take_of_length_le (by omega)]at hth
  have hol:=hI.len
  cases th with
  |false=>
   simp only[wdB,t3,vdF,oD,gdF,pdB,Bool.false_eq_true,if_false,cdF]
   exact hgo _ _ _ _ hs hle hI (fun hm=>by have:=hth.2 hm;cases this) (fun _ h=>h) (.inl ⟨rfl,rfl⟩)
  |true=>
   have hm:=hth.1 rfl
   simp only[wdB,t4,vdT,oD,gdT]
   refine(a8S (q:=n) (by omega) hs.rd).use ?_
   rintro v S' ⟨rfl,rfl⟩
   simp only[unN,vdT,oD,pdB,if_true]
   by_cases hn:n∈out
   ·rw[decide_eq_true hn,Bool.not_true,cdF]
    exact hgo _ _ _ _ hs hle hI (fun _=>hn) (fun _ h=>h) (.inl ⟨rfl,rfl⟩)
   ·rw[decide_eq_false hn,Bool.not_false,cdT]
    refine b5o hs hle (by simp) hI.rises (by omega) fun d' T2 hle2 _ hs2=> ?_
    have hI2:b2E l b0 (a9O n out):=⟨a2s n _ hI.rises,fun q hq=>by
     rcases(V8 n out q).1 hq with rfl|hq
     ·exact hN hm
     ·exact hI.is q hq,(V8 n out _).2 (.inr hI.first)⟩
    refine hgo _ _ _ _ hs2 hle2 hI2 (fun _=>(V8 n out n).2 (.inl rfl)) (fun q hq=>(V8 n out q).2 (.inr hq)) (.inr ⟨rfl, ?_⟩)
    have:=a2g (l1:=n::out) (l2:=a9O n out) (List.nodup_cons.2 ⟨hn,hI.rises.imp fun h e=>by omega⟩) fun a ha=>(V8 n out a).2 (by simpa using ha)
    simp at this
    omega
def a8f(l:List G8)(b0:G8)(out:List Int)(more:Bool)(out':List Int)(more':Bool):Prop:=b2E l b0 out'∧(∀m∈out,m∈out')∧((out'=out∧more'=more)∨(more'=true∧out.length<out'.length))
theorem a8f.refl{out:List Int}{more:Bool}(h:b2E l b0 out):a8f l b0 out more out more:=⟨h,fun _ h=>h, .inl ⟨rfl,rfl⟩⟩
theorem a8f.trans{o1 o2 o3:List Int}{m1 m2 m3:Bool}(h:a8f l b0 o1 m1 o2 m2)(h':a8f l b0 o2 m2 o3 m3):a8f l b0 o1 m1 o3 m3:=by
 refine⟨h'.1,fun m hm=>h'.2.1 m (h.2.1 m hm), ?_⟩
 rcases h'.2.2 with ⟨rfl,rfl⟩|⟨a,b⟩
 ·exact h.2.2
 ·rcases h.2.2 with ⟨rfl,rfl⟩|⟨c,d⟩
  ·exact .inr ⟨a,b⟩
  ·exact .inr ⟨a,by omega⟩
theorem c7e(hl:l.length<2^37){N1:D→D→D→D→b4→Prop}{N0:D→D→D→b4→Prop}{Q:D→b4→Prop}{d:D}{out:List Int}{more:Bool}{i:Nat}{b:G8}(hb:l[i]? =some b)(hbn:b.next.length<2^37)(hf:r7 l b.at'=some i)(ho:b.at'∈out){T:b4}(hs:Sl S0 [] d out T)(hle:S0.le T)(hI:b2E l b0 out)
  (hgo:∀d' out' more' T',Sl S0 [] d' out' T'→S0.le T'→a8f l b0 out more out' more'→ClB l out' i→K1 E w0 N1 N0 Q (p6 l) d' (.bool more') (.int .i64 (i:Int)) T'):
  b8 Try.prog E w0 (.loop X2) (d8 97 [0,3,4,5,8] [p6 l,d, .bool more, .int .i64 (i:Int),(.int .i64 0)]) T (X8 E w0 N1 N0 Q):=by
 refine a7X (I:=fun m x0 x3 x4 x5 x8 T'=>x0=p6 l∧x5= .int .i64 (i:Int)∧∃(k:Nat) (out':List Int) (more':Bool),x4= .bool more'∧x8= .int .i64 (k:Int)∧k+m=b.next.length∧Sl S0 [] x3 out' T'∧S0.le T'∧a8f l b0 out more out' more'∧∀n∈b.next.take k,n∈l.map (·.at')→n∈out') ?_ (n:=b.next.length)
  ⟨rfl,rfl,0,out,more,rfl,rfl,by omega,hs,hle,a8f.refl hI,by simp⟩
 rintro m _ x3 _ _ _ T' ⟨rfl,rfl,k,out',more',rfl,rfl,hk,hs',hle',hrel,hcl⟩
 unfold a1v
 rw[E7 hb,oD,ofE,oD,lsE,show(C3 b)[0+2]? =some (iD b.next) from rfl,oD,a0c,oD,V6,oD,cdI]
 refine⟨fun hlt=> ?_,fun hge=> ?_⟩
 ·have hlt':k<b.next.length:=by omega
  have en:b.next[k]? =some b.next[k]:=List.getElem?_eq_getElem hlt'
  have hnm:b.next[k]∈b.next:=List.getElem_mem _
  generalize b.next[k]=q at en hnm
  rw[oD,ofE,oD,lsE,show(C3 b)[0+2]? =some (iD b.next) from rfl,oD,a3q en,oD,lsE,List.getElem?_cons_zero,oD]
  refine c6P hl hs' hle' hrel.1 (fun hq=> .step (hI.is _ ho) hf hb hnm (b4G.2 hq)) fun d2 out2 more2 T2 h1 h2 h3 h4 h5 h6=> ?_
  refine a7c ?_
  unfold a4s
  rw[C6,oD,g9 (by omega) (by omega)]
  refine⟨m - 1,by omega,rfl,rfl,k+1,out2,more2,rfl,by simp,by omega,h1,h2,hrel.trans ⟨h3,h5,h6⟩,fun n hn hm=> ?_⟩
  rw[List.take_add_one,en]at hn
  rcases List.mem_append.1 hn with hn|hn
  ·exact h5 n (hcl n hn hm)
  ·simp only[Option.toList,List.mem_singleton]at hn
   subst hn
   exact h4 hm
 ·rw[List.take_of_length_le (by omega)]at hcl
  refine hgo _ _ _ _ hs' hle' hrel fun c hc _ _ n hn hth=> ?_
  rw[hb]at hc
  cases hc
  exact hcl n hn (b4G.1 hth)
theorem c6W(hl:l.length<2^37)(hnx:∀b∈l,b.next.length<2^37){N1:D→D→D→D→b4→Prop}{N0:D→D→D→b4→Prop}{Q:D→b4→Prop}{d:D}{out:List Int}{more:Bool}{i:Nat}(hi:i<l.length){T:b4}(hs:Sl S0 [] d out T)(hle:S0.le T)(hI:b2E l b0 out)
  (hgo:∀d' out' more' T',Sl S0 [] d' out' T'→S0.le T'→a8f l b0 out more out' more'→ClB l out' i→K1 E w0 N1 N0 Q (p6 l) d' (.bool more') (.int .i64 (i:Int)) T'):
  b8 Try.prog E w0 (.loop X1) (d8 97 [0,3,4,5,6,7] [p6 l,d, .bool more, .int .i64 (i:Int),(.bool true),(.int .i64 0)]) T (X9 E w0 N1 N0 Q):=by
 have eb:l[i]? =some l[i]:=List.getElem?_eq_getElem hi
 have hbn:=hnx l[i] (List.getElem_mem _)
 generalize l[i]=b at eb hbn
 refine a8w (I:=fun m x0 x3 x4 x5 x6 x7 T'=>T'=T∧x0=p6 l∧x3=d∧x4= .bool more∧x5= .int .i64 (i:Int)∧∃(k:Nat) (fi:Bool),x6= .bool fi∧x7= .int .i64 (k:Int)∧k+m=i∧(fi=true↔b.at' ∉ (l.take k).map (·.at'))) ?_ (n:=i)
  ⟨rfl,rfl,rfl,rfl,rfl,0,true,rfl,rfl,by omega,by simp⟩
 rintro m _ x3 _ _ _ _ T' ⟨hT,rfl,rfl,rfl,rfl,k,fi,rfl,rfl,hk,hfi⟩
 subst hT
 unfold a1q
 rw[V6,oD,cdI]
 refine⟨fun hlt=> ?_,fun hge=> ?_⟩
 ·have hlt':k<l.length:=by omega
  have ec:l[k]? =some l[k]:=List.getElem?_eq_getElem hlt'
  generalize l[k]=c at ec
  have htk:l.take (k+1)=l.take k++[c]:=by rw[List.take_add_one,ec];rfl
  have go:∀fi':Bool,(fi'=true↔b.at' ∉ (l.take (k+1)).map (·.at'))→Q3 E w0 (fun x0 x3_1 x4 x5 x6 x7 S=>∃m_1,m_1<m∧(S=T'∧x0=p6 l∧x3_1=x3∧x4= .bool more∧x5= .int .i64 (i:Int)∧∃(k:Nat) (fi:Bool),x6= .bool fi∧x7= .int .i64 (k:Int)∧k+m_1=i∧(fi=true↔b.at' ∉ (l.take k).map (·.at')))) N1 N0 Q (p6 l) x3 (.bool more) (.int .i64 (i:Int)) (.bool fi') (.int .i64 (k:Int)) T':=fun fi' hh=>by
   refine a7w ?_
   unfold a4g
   rw[C6,oD,g9 (by omega) (by omega)]
   exact⟨m - 1,by omega,rfl,rfl,rfl,rfl,rfl,k+1,fi',rfl,by simp,by omega,hh⟩
  rw[E7 ec,oD,ofE,oD,lsE,show(C3 c)[0+0]? =some (.int .i64 c.at') from rfl,oD,E7 eb,oD,ofE,oD,lsE,show(C3 b)[0+0]? =some (.int .i64 b.at') from rfl,oD,a4e,oD,cdI]
  refine⟨fun he=>go false ?_,fun he=>go fi ?_⟩
  ·rw[htk,List.map_append]
   simp[he]
  ·rw[hfi,htk,List.map_append]
   simp only[List.map_cons,List.map_nil,List.mem_append,List.mem_singleton,not_or]
   exact⟨fun h=>⟨h,fun e=>he e.symm⟩,fun h=>h.1⟩
 ·rw[show k=i by omega, ←c2q eb]at hfi
  have hol:=hI.len
  cases fi with
  |false=>
   simp only[unN,oD,Bool.not_false,wdB,t1,vdF,gdF,pdB,if_true,cdT]
   refine hgo _ _ _ _ hs hle (a8f.refl hI) fun c hc hf=> ?_
   rw[eb]at hc
   cases hc
   exact absurd (hfi.2 hf) (by decide)
  |true=>
   have hf:=hfi.1 rfl
   simp only[unN,oD,Bool.not_true,wdB,t2,vdT,E7 eb,ofE,Nat.zero_add,lsE,show(C3 b)[0]? =some (.int .i64 b.at') from rfl,gdT]
   refine(a8S (q:=b.at') (by omega) hs.rd).use ?_
   rintro v S' ⟨rfl,rfl⟩
   simp only[unN,vdT,oD,pdB,Bool.false_eq_true,if_false]
   by_cases ho:b.at'∈out
   ·rw[decide_eq_true ho,Bool.not_true,cdF]
    exact c7e hl eb hbn hf ho hs hle hI hgo
   ·rw[decide_eq_false ho,Bool.not_false,cdT]
    refine hgo _ _ _ _ hs hle (a8f.refl hI) fun c hc _ hm=> ?_
    rw[eb]at hc
    cases hc
    exact absurd hm ho
theorem c7f(hl:l.length<2^37)(hnx:∀b∈l,b.next.length<2^37){N0:D→D→D→b4→Prop}{Q:D→b4→Prop}{d:D}{out:List Int}{T:b4}(hs:Sl S0 [] d out T)(hle:S0.le T)(hI:b2E l b0 out)
  (hgo:∀d' out' more' T',Sl S0 [] d' out' T'→S0.le T'→a8f l b0 out false out' more'→(more'=false→∀i,i<l.length→ClB l out' i)→N0 (p6 l) d' (.bool more') T'):
  b8 Try.prog E w0 (.loop X6) (d8 97 [0,3,4,5] [p6 l,d,(.bool false),(.int .i64 0)]) T (X7 E w0 N0 Q):=by
 refine a8v (I:=fun m x0 x3 x4 x5 T'=>x0=p6 l∧∃(i:Nat) (out':List Int) (more':Bool),x4= .bool more'∧x5= .int .i64 (i:Int)∧i+m=l.length∧Sl S0 [] x3 out' T'∧S0.le T'∧a8f l b0 out false out' more'∧(more'=false→∀j,j<i→ClB l out' j)) ?_ (n:=l.length)
  ⟨rfl,0,out,false,rfl,rfl,by omega,hs,hle,a8f.refl hI,fun _ j hj=>by omega⟩
 rintro m _ x3 _ _ T' ⟨rfl,i,out',more',rfl,rfl,hi,hs',hle',hrel,hcl⟩
 unfold a1p
 rw[J5,oD,V6,oD,cdI]
 refine⟨fun hlt=> ?_,fun hge=> ?_⟩
 ·refine c6W hl hnx (show i<l.length by omega) hs' hle' hrel.1 fun d2 out2 more2 T2 h1 h2 h3 h4=> ?_
  refine a7n ?_
  unfold a3W
  rw[C6,oD,g9 (by omega) (by omega)]
  refine⟨m - 1,by omega,rfl,i+1,out2,more2,rfl,by simp,by omega,h1,h2,hrel.trans h3,fun hm j hj=> ?_⟩
  by_cases e:j=i
  ·subst e;exact h4
  ·rcases h3.2.2 with ⟨rfl,e2⟩|⟨e2,_⟩
   ·exact hcl (by rw[←e2];exact hm) j (by omega)
   ·rw[hm]at e2;cases e2
 ·exact hgo _ _ _ _ hs' hle' hrel fun hm j hj=>hcl hm j (by omega)
theorem Sl.fin{av:List Nat}{d:D}{l:List Int}{T:b4}(h:Sl S0 av d l T)(hle:S0.le T){Q:D→b4→Prop}(hq:b9 E Q (iD l) S0):b9 E Q d T:=by
 rcases h with ⟨rfl,rfl⟩|⟨k,cap,ex,rows,acs,h0,h1,rfl,h2,h3,h4⟩
 ·exact b9.less hle (b9.nil hq)
 ·refine b9.freeze h2 rfl (by have:=b1h h3;simp only;omega) h4 ?_
  rw[List.drop_zero,h3]
  exact b9.less (b4.le_erase hle h0) hq
theorem b3c(hl:l.length<2^37)(hnx:∀b∈l,b.next.length<2^37){S:b4}:r8 Try.prog E w0 X0 [p6 l] S fun d S'=>S'=S∧∃r,d=iD r∧r.Pairwise (· < ·)∧∀n,n∈r↔a4H l n:=by
 refine b1r ?_
 unfold a7R
 rw[J5,oD,a4e,oD,cdI]
 refine⟨fun h0=> ?_,fun h0=> ?_⟩
 ·have h0:l=[]:=List.length_eq_zero_iff.1 (by omega)
  refine b9.weak (d':=iD []) (Wk.nil 1) (b9.here ⟨rfl,[],rfl,List.Pairwise.nil,fun n=>⟨fun h=>(by cases h),fun h=> ?_⟩⟩)
  have:=a9t h
  rw[h0]at this
  simp at this
 ·obtain⟨b0,l',hb0⟩:∃b0 l',l=b0::l':=by
   cases l with
   |nil=>exact absurd rfl h0
   |cons b l=>exact⟨b,l,rfl⟩
  have e0:l[0]? =some b0:=by rw[hb0];rfl
  rw[show((0:Int))=((0:Nat):Int) from rfl,E7 e0,oD,ofE,oD,lsE,show(C3 b0)[0+0]? =some (.int .i64 b0.at') from rfl,oD]
  refine a9A fun d T hT=> ?_
  have hs:Sl S [] d [b0.at'] T:=c3N hT (b4.le_refl S) (by simp)
  have hI:b2E l b0 [b0.at']:=⟨List.pairwise_singleton _ _,fun n hn=>by rw[List.mem_singleton.1 hn];exact .base e0,by simp⟩
  refine a8A (I:=fun m x0 x3 x4 T'=>x0=p6 l∧∃(out:List Int) (more:Bool),x4= .bool more∧m=(if more then l.length - out.length+1 else 0)∧Sl S [] x3 out T'∧S.le T'∧b2E l b0 out∧(more=false→∀i,i<l.length→ClB l out i)) ?_ (n:=l.length - 1+1)
   ⟨rfl,[b0.at'],true,rfl,rfl,hs,hT.le,hI,fun h=>by cases h⟩
  rintro m _ x3 _ T' ⟨rfl,out,more,rfl,hm,hs',hle',hI',hcl⟩
  unfold a1D
  cases more with
  |true=>
   rw[cdT]
   refine c7f hl hnx hs' hle' hI' fun d2 out2 more2 T2 h1 h2 h3 h4=> ?_
   refine⟨_, ?_,rfl,out2,more2,rfl,rfl,h1,h2,h3.1,h4⟩
   have hlen:=h3.1.len
   rw[hm,if_pos rfl]
   cases more2 with
   |false=>rw[if_neg (by decide)];omega
   |true=>
    rw[if_pos rfl]
    rcases h3.2.2 with ⟨_,e⟩|⟨_,e⟩
    ·cases e
    ·omega
  |false=>
   rw[cdF]
   have hc:=hcl rfl
   refine hs'.fin hle' (b9.here ⟨rfl,out,rfl,hI'.rises,fun n=>⟨hI'.is n,fun h=> ?_⟩⟩)
   refine b4h (fun b hb=> ?_) (fun a i b ha hf hb q hq hth=> ?_) h
   ·rw[e0]at hb;cases hb;exact hI'.first
   ·obtain⟨c,hc2,e⟩:=R3 hf
    rw[hb]at hc2
    cases hc2
    exact hc i (List.getElem?_eq_some_iff.1 hb).1 b hb (by rw[e];exact hf) (by rw[e];exact ha) q hq hth
end
end
end
section
set_option linter.unusedSectionVars false
section
variable{E:d6}{w0:i5}
theorem c3t{l:List G8}{s:List Int}(hat:∀b∈l,I64 b.at')(hl:l.length<2^37)(hW:wgt (fun _=>true) l<2^37)(hnx:∀b∈l,b.next.length<2^37)(hs:s.Pairwise (· < ·))(h1:∀n∈s,a4H l n)(h2:∀n,a4H l n→n∈s):a1o Try.prog E w0 C0 [p6 l] (iD s):=fun S=>
 (b2u hat hl hW hnx).use fun d S' ⟨a,r,b,c,e⟩=>⟨by rw[b,b7S c hs fun n=>⟨fun h=>h2 n ((e n).1 h),fun h=>(e n).2 (h1 n h)⟩],a⟩
theorem b3d:a1o Try.prog E w0 M2 [] (.bool true):=fun S=>by
 refine b0T ?_
 unfold a7N
 rw[show s4 1 (List.replicate 3 [D.int .u8 0]) [(0, .int .u8 52),(1, .int .u8 1),(2, .int .u8 51)]=some (Z7 ([52,1,51].map (D.int .u8))) from rfl]
 refine I8 rfl ?_
 refine(show r8 Try.prog E w0 a3v [bD [52,1,51]] S _ from(b6K (by simp[W3]) (by decide)).use ?_)
 rw[show a4C [52,1,51]=([⟨0,2,[]⟩,⟨2,3,[]⟩],0) from by rw[c3d];kernel_rfl]
 have hln:m6 (p6 [⟨0,2,[]⟩,⟨2,3,[]⟩])=some (.int .i64 2):=rfl
 have i0:j5 3 (p6 [⟨0,2,[]⟩,⟨2,3,[]⟩]) (.int .i64 0)=some (.elt (C3 ⟨0,2,[]⟩) 0):=rfl
 have i1:j5 3 (p6 [⟨0,2,[]⟩,⟨2,3,[]⟩]) (.int .i64 1)=some (.elt (C3 ⟨2,3,[]⟩) 0):=rfl
 have r0:∀b:G8,(C3 b)[0]? =some (.int .i64 b.at'):=fun _=>rfl
 have r1:∀b:G8,(C3 b)[1]? =some (.int .i64 b.end'):=fun _=>rfl
 have r2:∀b:G8,(C3 b)[2]? =some (iD b.next):=fun _=>rfl
 unfold ofD
 simp only[exD,List.getElem?_cons_zero,List.getElem?_cons_succ,oD,a7j,eqI,decide_true,wdB,t4,vdT,hln,pdB,if_true,i0,i1,ofE,Nat.zero_add,lsE,r0,r1,r2,a0c,List.length_nil,Int.ofNat_zero,gdT]
 refine(show r8 Try.prog E w0 C0 [p6 [⟨0,2,[]⟩,⟨2,3,[]⟩]] S _ from(c3t (s:=[0]) (by simp[I64]) (by decide) (by decide) (by simp) (by simp) (fun n hn=> ?_) (fun n hn=> ?_)).use ?_)
 ·rw[List.mem_singleton.1 hn];exact .base (b:=⟨0,2,[]⟩) rfl
 ·refine b4h (fun b hb=> ?_) (fun a i b ha hi hb m hm _=> ?_) hn
  ·cases hb;simp
  ·rw[List.mem_singleton.1 ha]at hi
   cases hi
   cases hb
   cases hm
 rw[show s4 1 (List.replicate 1 [D.int .i64 0]) [(0, .int .i64 0)]=some (iC [0]) from rfl]
 refine I8 (rows:=iC [0]) (len:=1) rfl ?_
 refine(show r8 Try.prog E w0 A1 [iD [0],iD [0]] S _ from(a1F (by decide) (by decide)).use ?_)
 simp only[decide_true,pdB,if_true,oD]
 exact b9.pure
end
end
section
set_option linter.unusedSectionVars false
theorem b5G{p:Int→Bool}:∀ {l:List G8},(∀b∈l,b.next.length≤60)→wgt p l≤l.length*61
 | [],_=>by simp[wgt]
 |b::l,h=>by
  have:=b5G (p:=p) (l:=l) fun c hc=>h c (List.mem_cons_of_mem _ hc)
  have hb:=h b List.mem_cons_self
  simp only[wgt,List.length_cons]
  split<;>omega
section
variable{E:d6}{w0:i5}
def tF(E:d6):D→b4→Prop:=b9 E fun v _=>v= .bool true
theorem b6d{S:b4}:r8 Try.prog E w0 M2 [] S (tF E):=b3d.use (b9.here rfl)
end
end
end Go.Proofs.Ytdkidgkiplcggaa.d
end
section
open Go.Proofs Go Go.Am
namespace Go.Proofs.Ytdkidgkiplcggaa.d
def B4:List (Nat×List Nat):=[(10,[0,3,4]),(32,[0,3,6,7])]
def B7:List (Nat×List Nat):=[(24,[0,3])]
def B5:List (Nat×Arr):=[]
noncomputable def D7:Code:=(f0 [1,1,1,1,1,1,0,1,0,0] (Try.f4.body.getD .skip))
def D6(E:d6)(w0:i5)(Q:D→b4→Prop):j2→List D→b4→Prop:=
 (i4 2 (J0 Try.prog E w0 B4 B7 B5 (f0 [1,1,1,1,1,1,1] (Try.f4.body.getD .skip)) (E3 Try.prog Try.f4 Q)))
def J8(E:d6)(w0:i5)(N0:D→D→D→D→b4→Prop)(Q:D→b4→Prop)(x0 x3 x6 x7:D)(S:b4):Prop:=
 b5 (m6 x0) fun v17=>
 b5 (d4 .lss x7 v17) fun v18=>
 g8 v18
 (b5 (j5 3 x3 x7) fun v19=>
 b5 (t8 2 v19) fun v20=>
 b5 (c9 S v20) fun v21=>
 b5 (j5 3 x0 x7) fun v22=>
 b5 (t8 2 v22) fun v23=>
 b5 (c9 S v23) fun v24=>
 r8 Try.prog E w0 a0b [v21,v24] S fun v25 S26=>
 b5 (unD .not v25) fun v27=>
 g8 v27
 (Q (.bool false) S26)
 (b5 (d4 .add x7 (.int .i64 1)) fun v28=>
 N0 x0 x3 x6 v28 S26))
 (r8 Try.prog E w0 a1s [x6] S fun v29 S30=>
 r8 Try.prog E w0 C0 [x3] S30 fun v31 S32=>
 r8 Try.prog E w0 X0 [x0] S32 fun v33 S34=>
 r8 Try.prog E w0 A1 [v31,v33] S34 fun v35 S36=>
 Z6 (b7 v35 true) (fun K=>r8 Try.prog E w0 M2 [] S36 K) S36 fun v37 S38=>
 b5 (H5 v35 v37 (.bool false)) fun v39=>
 Q v39 S38)
theorem a2T{E:d6}{w0:i5}{N0:D→D→D→D→b4→Prop}{Q:D→b4→Prop}{x0 x3 x6 x7:D}{S:b4}(h:J8 E w0 N0 Q x0 x3 x6 x7 S):
  b8 Try.prog E w0 D7 (d8 79 [0,3,6,7] [x0,x3,x6,x7]) S (m9 (fun T S=>N0 (T.getD 0 a8) (T.getD 3 a8) (T.getD 6 a8) (T.getD 7 a8) S) (D6 E w0 Q)):=d5 B4 B7 B5 mixed (by kernel_rfl) h
theorem a2J{E:d6}{w0:i5}{Q:D→b4→Prop}(I:Nat→D→D→D→D→b4→Prop)
  (step:∀n x0 x3 x6 x7 S,I n x0 x3 x6 x7 S→J8 E w0 (fun x0 x3 x6 x7 S=>∃m,m<n∧I m x0 x3 x6 x7 S) Q x0 x3 x6 x7 S)
  {n:Nat} {x0 x3 x6 x7:D} {S:b4} (h:I n x0 x3 x6 x7 S):b8 Try.prog E w0 (.loop D7) (d8 79 [0,3,6,7] [x0,x3,x6,x7]) S (D6 E w0 Q):=
 j7 (k:=79) (n:=n) (I:=fun n T S=>I n (T.getD 0 a8) (T.getD 3 a8) (T.getD 6 a8) (T.getD 7 a8) S) (fun n T S hl hI=>l9 [0,3,6,7] hl (b8.mono (a2T (step n _ _ _ _ S hI)) fun ex T' S' _ hq=>by cases ex<;>exact hq)) (f9 ..) (Eq.mp (by kernel_rfl) h)
noncomputable def W9:Code:=(f0 [1,1,1,1] (Try.f4.body.getD .skip))
def a2W(E:d6)(w0:i5)(Q:D→b4→Prop):j2→List D→b4→Prop:=
 (E3 Try.prog Try.f4 Q)
def V7(E:d6)(w0:i5)(Q:D→b4→Prop)(x0 x3:D)(S:b4):Prop:=
 r8 Try.prog E w0 C0 [x3] S fun v4 S5=>
 r8 Try.prog E w0 X0 [x0] S5 fun v6 S7=>
 r8 Try.prog E w0 A1 [v4,v6] S7 fun v8 S9=>
 b5 (unD .not v8) fun v10=>
 b5 (d9 (b7 v10 false) (some x3)) fun v11=>
 b5 (d9 (b7 v10 false) (some x0)) fun v12=>
 Z6 (b7 v10 false) (fun K=>r8 Try.prog E w0 a1R [v11,v12] S9 K) S9 fun v13 S14=>
 b5 (d9 (b7 v10 false) (unD .not v13)) fun v15=>
 b5 (H5 v10 (.bool true) v15) fun v16=>
 g8 v16
 (Q (.bool false) S14)
 (b8 Try.prog E w0 (.loop D7) (d8 79 [0,3,6,7] [x0,x3,v4,(.int .i64 0)]) S14 (D6 E w0 Q))
def u9(E:d6)(w0:i5)(Q:D→b4→Prop)(x0 x3:D)(S:b4):Prop:=b8 Try.prog E w0 W9 (d8 79 [0,3] [x0,x3]) S (a2W E w0 Q)
theorem a1N{E:d6}{w0:i5}{Q:D→b4→Prop}{x0 x3:D}{S:b4}(h:V7 E w0 Q x0 x3 S):u9 E w0 Q x0 x3 S:=d5 B4 B7 B5 mixed (by kernel_rfl) h
noncomputable def J2:Code:=(f0 [1,1,1,0,1,0,0] (Try.f4.body.getD .skip))
def I9(E:d6)(w0:i5)(Q:D→b4→Prop):j2→List D→b4→Prop:=
 (i4 0 (a7h Try.prog E w0 79 [0,3] W9 (E3 Try.prog Try.f4 Q)))
def J6(E:d6)(w0:i5)(N1:D→D→D→b4→Prop)(Q:D→b4→Prop)(x0 x3 x4:D)(S:b4):Prop:=
 b5 (m6 x0) fun v40=>
 b5 (d4 .lss x4 v40) fun v41=>
 g8 v41
 (b5 (j5 3 x0 x4) fun v42=>
 b5 (t8 2 v42) fun v43=>
 b5 (c9 S v43) fun v44=>
 b5 (m6 v44) fun v45=>
 b5 (d4 .gtr v45 (.int .i64 60)) fun v46=>
 g8 v46
 (r8 Try.prog E w0 M2 [] S fun v47 S48=>
 Q v47 S48)
 (b5 (j5 3 x0 x4) fun v49=>
 b5 (s8 S 3 v49) fun v50=>
 q7 S [(.int .i64 0),(.int .i64 0), .nilSlc] fun v51 S52=>
 j4 S52 3 v51 v50 fun v53 S54=>
 b5 (t8 2 v51) fun v55=>
 b5 (c9 S54 v55) fun v56=>
 r8 Try.prog E w0 a0i [v56] S54 fun v57 S58=>
 b5 (t8 2 v51) fun v59=>
 j4 S58 1 v59 v57 fun v60 S61=>
 b5 (s8 S61 3 v51) fun v62=>
 I4 S61 3 (s4 3 (List.replicate 1 [(.int .i64 0),(.int .i64 0), .nilSlc]) [(0,v62)]) 1 fun v63 S64=>
 s0 S64 3 40 x3 v63 fun v65 S66=>
 b5 (d4 .add x4 (.int .i64 1)) fun v67=>
 N1 x0 v65 v67 S66))
 (u9 E w0 Q x0 x3 S)
theorem a2b{E:d6}{w0:i5}{N1:D→D→D→b4→Prop}{Q:D→b4→Prop}{x0 x3 x4:D}{S:b4}(h:J6 E w0 N1 Q x0 x3 x4 S):
  b8 Try.prog E w0 J2 (d8 79 [0,3,4] [x0,x3,x4]) S (m9 (fun T S=>N1 (T.getD 0 a8) (T.getD 3 a8) (T.getD 4 a8) S) (I9 E w0 Q)):=d5 B4 B7 B5 mixed (by kernel_rfl) h
theorem a2r{E:d6}{w0:i5}{Q:D→b4→Prop}(I:Nat→D→D→D→b4→Prop)
  (step:∀n x0 x3 x4 S,I n x0 x3 x4 S→J6 E w0 (fun x0 x3 x4 S=>∃m,m<n∧I m x0 x3 x4 S) Q x0 x3 x4 S)
  {n:Nat} {x0 x3 x4:D} {S:b4} (h:I n x0 x3 x4 S):b8 Try.prog E w0 (.loop J2) (d8 79 [0,3,4] [x0,x3,x4]) S (I9 E w0 Q):=
 j7 (k:=79) (n:=n) (I:=fun n T S=>I n (T.getD 0 a8) (T.getD 3 a8) (T.getD 4 a8) S) (fun n T S hl hI=>l9 [0,3,4] hl (b8.mono (a2b (step n _ _ _ S hI)) fun ex T' S' _ hq=>by cases ex<;>exact hq)) (f9 ..) (Eq.mp (by kernel_rfl) h)
def a0t(E:d6)(w0:i5)(Q:D→b4→Prop)(a0:D)(S:b4):Prop:=
 b5 (m6 a0) fun v0=>
 b5 (d4 .gtr v0 (.int .i64 60)) fun v1=>
 g8 v1
 (r8 Try.prog E w0 M2 [] S fun v2 S3=>
 Q v2 S3)
 (b8 Try.prog E w0 (.loop J2) (d8 79 [0,3,4] [a0, .nilSlc,(.int .i64 0)]) S (I9 E w0 Q))
theorem a3D{E:d6}{w0:i5}{Q:D→b4→Prop}{a0:D}{S:b4}(h:a0t E w0 (b9 E Q) a0 S):r8 Try.prog E w0 a0r [a0] S Q:=
 o6 B4 B7 B5 (fn:=Try.f4) (c:=Try.f4.body.getD .skip) mixed Try.func4 (by kernel_rfl) (by kernel_rfl) h
end Go.Proofs.Ytdkidgkiplcggaa.d
end
section
open Go.Proofs Go Go.Am Go.Op
namespace Go.Proofs.Ytdkidgkiplcggaa.d
set_option linter.unusedSectionVars false
section
variable{E:d6}{w0:i5}
theorem c3H{S0 S:b4}{av:List Nat}{d:D}{l:List Int}(h:Z1 S0 av d (iC l) 1 S):Sl S0 av d l S:=by
 rcases h with ⟨rfl,e⟩|⟨k,acs,h0,h1,rfl,h3⟩
 ·refine .inl ⟨rfl, ?_⟩
  cases l with
  |nil=>rfl
  |cons a l=>simp[iC,Z7]at e
 ·refine .inr ⟨k,_,false,iC l,acs,h0,h1,by rw[j3],h3,List.take_of_length_le (by rw[j3];exact Nat.le_refl _),Nat.le_refl _⟩
theorem b0H{S0 S:b4}{d:D}{l:List Int}(h:Sl S0 [] d l S)(hle:S0.le S)(hl:l.length<2^38){Q:D→b4→Prop}(hQ:∀S',S0.le S'→Q a8 S'):r8 Try.prog E w0 a1s [d] S Q:=by
 refine a8h ?_
 unfold a5j
 refine a5U (I:=fun m x0 x2 T=>x0=d∧∃(i:Nat) (cur:List Int),x2= .int .i64 (i:Int)∧i+m=l.length∧cur.length=l.length∧S0.le T∧Sl S0 [] d cur T) ?_ (n:=l.length) ⟨rfl,0,l,rfl,by omega,rfl,hle,h⟩
 rintro m x0 _ T ⟨rfl,i,cur,rfl,hi,hc,hleT,hs⟩
 unfold a0g
 rw[hs.len,oD,V6,oD,cdI]
 refine⟨fun hlt=> ?_,fun hge=> ?_⟩
 ·obtain⟨p,p1,p2⟩:=b9F hs (i:=i) (by omega) (n:= -777)
  rw[p1,oD]
  refine p2 _ fun T2 h2 hs2=> ?_
  rw[C6,oD,g9 (by omega) (by omega)]
  refine⟨m - 1,by omega,rfl,i+1,_,by simp,by omega,by rw[List.length_set];exact hc,fun k o e=> ?_,hs2⟩
  rw[h2 k fun hm=>by rw[(hs.ob_none k hm).1]at e;cases e]
  exact hleT _ _ e
 ·refine a6n (I:=fun m x3 x4 T=>∃(i:Nat) (cur:List Int),x4= .int .i64 (i:Int)∧i+m=8∧cur.length=l.length+i∧S0.le T∧Sl S0 [] x3 cur T) ?_ (n:=8) ⟨0,cur,rfl,by omega,hc,hleT,hs⟩
  rintro m x3 _ T ⟨i,cur,rfl,hi,hc,hleT,hs⟩
  unfold a0j
  rw[V6,oD,cdI]
  refine⟨fun hlt=> ?_,fun hge=>b9.here (hQ _ hleT)⟩
  rw[show s4 1 (List.replicate 1 [D.int .i64 0]) [(0,D.int .i64 (-778))]=some (iC [-778]) from rfl]
  refine I8 (rows:=iC [-778]) rfl ?_
  refine hs.push (news:=[-778]) hleT (by simp) (by simp[rowsS,E0,iC]) (by simp;omega) fun d' T' hle' _ hs'=> ?_
  rw[C6,oD,g9 (by omega) (by omega)]
  exact⟨m - 1,by omega,i+1,_,by simp,by omega,by simp;omega,hle',hs'⟩
theorem c0V:∀ {a b:List D} (i:Nat) {d d':D},WkL a b→Wk d d'→WkL (a.set i d) (b.set i d')
 | [],[],i,_,_,_,_=>by simp[WkL]
 |x::a,y::b,0,_,_,h,w=>⟨w,h.2⟩
 |x::a,y::b,i+1,_,_,h,w=>⟨h.1,c0V i h.2 w⟩
 | [],_::_,_,_,_,h,_=>h.elim
 |_::_,[],_,_,_,h,_=>h.elim
theorem b3i:∀ {a b:List D} (L:List Nat) {vs ws:List D},WkL a b→WkL vs ws→WkL (M9 a L vs) (M9 b L ws)
 |a,b,[],vs,ws,h,w=>by cases vs<;>cases ws<;>simpa [M9]using h
 |a,b,i::L,[],[],h,w=>h
 |a,b,i::L,v::vs,u::ws,h,w=>b3i L (c0V i h w.1) w.2
 |_,_,_::_,[],_::_,_,w=>w.elim
 |_,_,_::_,_::_,[],_,w=>w.elim
theorem c1B:∀n:Nat,WkL (List.replicate n .any) (List.replicate n .any)
 |0=>trivial
 |n+1=>⟨Wk.refl _,c1B n⟩
theorem c2U{P:Program}{c:Code}{n:Nat}{L:List Nat}{vs ws:List D}{S:b4}{Q:j2→List D→b4→Prop}(w:WkL vs ws)(h:b8 P E w0 c (d8 n L ws) S Q):b8 P E w0 c (d8 n L vs) S Q:=fun R H avs F hC hT=>by
 have:=h R H avs F hC (WkL.ok (b3i L (c1B n) w) hT)
 rw[f9]at this ⊢
 exact this
def a2V(b:G8):List D:=[.int .i64 b.at', .int .i64 b.end',iX b.next]
theorem b8j:∀l:List G8,WkR (l.map a2V) (l.map C3)
 | []=>trivial
 |b::l=>⟨⟨⟨Wk.refl _,Wk.refl _,c5h _,trivial⟩,rfl⟩,b8j l⟩
theorem b7x(l:List G8):Wk (.lst (l.map a2V) 3) (p6 l):=Wk.lst (b8j l) 3
structure a4x (l:List G8):Prop where
 len:l.length≤60
 nexts:∀b∈l,b.next.length≤60
 at':∀b∈l,I64 b.at'
theorem a4x.w{l:List G8}(h:a4x l):wgt (fun _=>true) l<2^37:=by
 have:=b5G (p:=fun _=>true) h.nexts
 have:=h.len
 omega
theorem a4x.n{l:List G8}(h:a4x l):∀b∈l,b.next.length<2^37:=fun b hb=>by have:=h.nexts b hb;omega
theorem c4P{l:List G8}{r:List Int}(h1:r.Pairwise (· < ·))(h2:∀n,n∈r↔a4H l n):r.length≤l.length:=by
 have:=a2g (h1.imp fun h e=>by omega) (l2:=l.map (·.at')) fun a ha=>a9t ((h2 a).1 ha)
 simpa using this
theorem b3M{l:List G8}(h:a4x l){S:b4}{Q:D→b4→Prop}(hQ:∀(d:D) (r:List Int) S',S.le S'→Sl S [] d r S'→r.length≤60→Q d S')(hQ':∀d S',Q d S'→True){x3:D}(hx:Wk x3 (p6 l)){K:D→D→b4→Prop}
  (hK:∀(d:D) (r:List Int) S',S.le S'→Sl S [] d r S'→r.length≤60→K d (.bool true) S'):
  r8 Try.prog E w0 C0 [x3] S fun v4 S5=>r8 Try.prog E w0 X0 [p6 l] S5 fun v6 S7=>r8 Try.prog E w0 A1 [v4,v6] S7 fun v8 S9=>K v4 v8 S9:=by
 refine DF.weak (es:=[p6 l]) ⟨hx,trivial⟩ ?_
 have hl:=h.len
 refine(a3Z h.at' (by omega) h.w h.n).use ?_
 rintro d S' ⟨hle,r,hg,h1,h2⟩
 refine(b3c (by omega) h.n).use ?_
 rintro d2 S2 ⟨rfl,r2,rfl,h3,h4⟩
 have hrr:r=r2:=b7S h1 h3 fun n=>by rw[h2,h4]
 subst hrr
 have hrl:=c4P h1 h2
 refine(b9l (by omega) (by omega) (c3H hg).rd (c4S _ _)).use ?_
 rintro v S3 ⟨rfl,rfl⟩
 rw[decide_eq_true rfl]
 exact hK d r _ hle (c3H hg) (by omega)
theorem c2S{l:List G8}(h:a4x l){S0 S:b4}{d:D}{r:List Int}(hs:Sl S0 [] d r S)(hle:S0.le S)(hr:r.length≤60):b8 Try.prog E w0 (.loop D7) (d8 79 [0,3,6,7] [p6 l, .lst (l.map a2V) 3,d,(.int .i64 0)]) S (D6 E w0 (tF E)):=by
 have hl:=h.len
 refine a2J (I:=fun m x0 x3 x6 x7 T=>T=S∧x0=p6 l∧x3= .lst (l.map a2V) 3∧x6=d∧∃i:Nat,x7= .int .i64 (i:Int)∧i+m=l.length) ?_ (n:=l.length) ⟨rfl,rfl,rfl,rfl,0,rfl,by omega⟩
 rintro m _ _ x6 _ T ⟨hT,rfl,rfl,rfl,i,rfl,hi⟩
 subst hT
 unfold J8
 rw[J5,oD,V6,oD,cdI]
 refine⟨fun hlt=> ?_,fun hge=> ?_⟩
 ·have hlt':i<l.length:=by omega
  have eb:l[i]? =some l[i]:=List.getElem?_eq_getElem hlt'
  have hbn:=h.nexts l[i] (List.getElem_mem _)
  generalize l[i]=b at eb hbn
  rw[b5t (row:=a2V b) (by rw[List.getElem?_map,eb];rfl),oD,ofE,oD,lsE,show(a2V b)[0+2]? =some (iX b.next) from rfl,oD,E7 eb,oD,ofE,oD,lsE,show(C3 b)[0+2]? =some (iD b.next) from rfl,oD]
  refine(show r8 Try.prog E w0 a0b [iX b.next,iD b.next] _ _ from(b2z (by omega)).use ?_)
  rw[unN,oD,Bool.not_true,cdF,C6,oD,g9 (by omega) (by omega)]
  exact⟨m - 1,by omega,rfl,rfl,rfl,rfl,i+1,by simp,by omega⟩
 ·refine b0H hs hle (by omega) fun S' hle'=> ?_
  refine b3M h (Q:=fun _ _=>True) (fun _ _ _ _ _ _=>trivial) (fun _ _ _=>trivial) (b7x l) fun d2 r2 S2 _ _ _=> ?_
  rw[wdB,t4,gdT]
  refine b3d.use ?_
  rw[pdB,if_pos rfl,oD]
  exact b9.here rfl
theorem c1V{l:List G8}(h:a4x l){S0 S:b4}{x3:D}(hg:Z1 S0 [] x3 (l.map a2V) 3 S)(hle:S0.le S):u9 E w0 (tF E) (p6 l) x3 S:=by
 have main:∀S,u9 E w0 (tF E) (p6 l) (.lst (l.map a2V) 3) S:=fun S=>by
  refine a1N ?_
  unfold V7
  have hl:=h.len
  refine b3M h (Q:=fun _ _=>True) (fun _ _ _ _ _ _=>trivial) (fun _ _ _=>trivial) (b7x l) fun d r S' hle' hs hr=> ?_
  simp only[unN,oD,Bool.not_true,wdB,t2,vdT,gdT]
  refine DF.weak (es:=[p6 l,p6 l]) ⟨b7x l,Wk.refl _,trivial⟩ ?_
  refine(show r8 Try.prog E w0 a1R [p6 l,p6 l] _ _ from(b4W (by omega) (by omega) (fun b hb=>by have:=h.nexts b hb;omega) fun b hb=>by have:=h.nexts b hb;omega).use ?_)
  rw[decide_eq_true rfl]
  simp only[unN,oD,Bool.not_true,vdT,pdB,Bool.false_eq_true,if_false,cdF]
  exact c2S h hs hle' hr
 unfold u9
 rcases hg with ⟨rfl,e⟩|⟨k,acs,h0,h1,rfl,h3⟩
 ·have:=main S
  unfold u9 at this
  rw[e]at this
  exact c2U (ws:=[p6 l, .lst [] 3]) ⟨Wk.refl _,Wk.nil _,trivial⟩ this
 ·refine a9p h3 (.inl (show 3<E9 by decide)) ?_
  have hfz:V1 k ⟨3,l.map a2V,acs⟩ [p6 l, .raw k 0 (l.map a2V).length (l.map a2V).length false 3]=[p6 l, .lst (l.map a2V) 3]:=by
   simp only[V1]
   rw[b7N (by simp) (Nat.le_refl _),List.drop_zero,List.take_of_length_le (Nat.le_refl _)]
   rfl
  rw[hfz]
  exact main _
theorem a8i{l:List G8}(hat:∀b∈l,I64 b.at')(hl0:l.length<2^47)(hnx:∀b∈l,b.next.length<2^47){S:b4}:r8 Try.prog E w0 a0r [p6 l] S fun v _=>v= .bool true:=by
 refine a3D ?_
 unfold a0t
 rw[J5,oD,b2q,oD,cdI]
 refine⟨fun _=>b6d,fun hl=> ?_⟩
 have hl:l.length≤60:=by omega
 refine a2r (I:=fun m x0 x3 x4 T=>x0=p6 l∧∃i:Nat,x4= .int .i64 (i:Int)∧i+m=l.length∧(∀b∈l.take i,b.next.length≤60)∧Z1 S [] x3 ((l.take i).map a2V) 3 T∧S.le T) ?_ (n:=l.length) ⟨rfl,0,rfl,by omega,by simp,Z1.nil,b4.le_refl S⟩
 rintro m _ x3 _ T ⟨rfl,i,rfl,hi,h1,hg,hle⟩
 unfold J6
 rw[J5,oD,V6,oD,cdI]
 refine⟨fun hlt=> ?_,fun hge=> ?_⟩
 ·have hlt':i<l.length:=by omega
  have eb:l[i]? =some l[i]:=List.getElem?_eq_getElem hlt'
  have hbl:=hnx l[i] (List.getElem_mem _)
  generalize l[i]=b at eb hbl
  rw[E7 eb,oD,ofE,oD,lsE,show(C3 b)[0+2]? =some (iD b.next) from rfl,oD,a0c,oD,b2q,oD,cdI]
  refine⟨fun _=>b6d,fun hbn=> ?_⟩
  rw[oD,laE,if_pos ⟨by decide,by simp[C3]⟩,oD]
  intro k a nk
  refine(I1.new (sz:=3) (c:=[.int .i64 0, .int .i64 0, .nilSlc])).st (ds:=C3 b) (clA _) ⟨rfl,by decide,by simp[C3]⟩ fun c=> ?_
  rw[b4.set_set,show o5 [D.int .i64 0, .int .i64 0, .nilSlc] 0 (C3 b)=C3 b from rfl]
  have ck:I1 (T.set k ⟨3,[C3 b],c⟩) k 3 (C3 b):=I1.new
  rw[ofP,oD,ck.ld,show(C3 b)[0+2]? =some (iD b.next) from rfl,oD]
  refine(show r8 Try.prog E w0 a0i [iD b.next] _ _ from(b2p (by omega)).use ?_)
  rw[oD]
  refine ck.st (ds:=[iX b.next]) (by unfold iX;rfl) ⟨rfl,by decide,by simp[C3]⟩ fun c'=> ?_
  rw[b4.set_set,show o5 (C3 b) (0+2) [iX b.next]=a2V b from rfl]
  have ck2:I1 (T.set k ⟨3,[a2V b],c'⟩) k 3 (a2V b):=I1.new
  rw[ck2.all (n:=3) (by decide) rfl,oD]
  rw[show s4 3 (List.replicate 1 [D.int .i64 0, .int .i64 0, .nilSlc]) [(0, .agg (a2V b))]=some [a2V b]from rfl]
  refine I8 (rows:=[a2V b]) rfl ?_
  have hk0:S k=none:=b4.none_of hle nk
  have hle1:S.le (T.set k ⟨3,[a2V b],c'⟩):=b4.le_trans hle (b4.le_new nk)
  have hg1:=hg.set (l:=k) (o:=⟨3,[a2V b],c'⟩) (.inr nk)
  refine hg1.push (news:=[a2V b]) hle1 (by simp) (by simp[rowsS,E0]) (by simp) ⟨by decide,by rw[List.length_map,List.length_take];simp only[List.length_cons,List.length_nil];omega⟩ fun t' S' hle' _ hg'=> ?_
  rw[C6,oD,g9 (by omega) (by omega)]
  have htk:l.take (i+1)=l.take i++[b]:=by rw[List.take_add_one,eb];rfl
  refine⟨m - 1,by omega,rfl,i+1,by simp,by omega,fun x hx=> ?_,by rw[htk,List.map_append];exact hg',hle'⟩
  rw[htk]at hx
  rcases List.mem_append.1 hx with hx|hx
  ·exact h1 x hx
  ·rw[List.mem_singleton.1 hx];omega
 ·rw[List.take_of_length_le (by omega)]at h1 hg
  exact c1V ⟨hl,h1,hat⟩ hg hle
end
end Go.Proofs.Ytdkidgkiplcggaa.d
end
