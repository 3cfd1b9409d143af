/- A part of the proof of ImageWrites. -/
import Derived.Test.YtchnpgddpaonhaaGreatWai
import Derived.Test.YtchnpgddpaonhaaGreatWag
set_option linter.unusedVariables false
set_option linter.unusedSimpArgs false
set_option maxRecDepth 100000
section
namespace Go.Am
section
variable(P:Program)(E:j6)(w0:World)
def Rb(H:AHeap)(T:List AV):Prop:=∃(w:World) (ρ:B7) (vs:Array Value),K9 E w0 H w ρ∧P4 ρ H∧w5 ρ T vs.toList
def J6(f:FuncId)(args:List AV)(H:AHeap)(Q:AV→AHeap→Prop):Prop:=
 Rb E w0 H args→∃v H',FnW P E w0 f args H (fun v' H''=>v'=v∧H''=H')∧Q v H'
def a4w(c:Code)(T:List AV)(H:AHeap)(Q:o6→List AV→AHeap→Prop):Prop:=
 Rb E w0 H T→∃ex T' H',H9 P E w0 c T H (fun e1 T1 H1=>e1=ex∧T1=T'∧H1=H')∧Q ex T' H'
def b2g(ops:Array Oper):List Oper→List AV→AHeap→(List AV→AHeap→Prop)→Prop
 | [],T,H,Q=>a8x T fun T=>Q T H
 |o::l,T,H,Q=>a8x T fun T=>match a1m o with
  |some x=>c7e T x fun e=>b2g ops l (K1 T o.dst e) H Q
  |none=>match r9 P o with
  |0|1=>b7 (a6h P E ops T H o) fun v=>b2g ops l (K1 T o.dst v) H Q
  |_=>b1O P E (J6 P E w0) ops T H o fun v H'=>b2g ops l (K1 T o.dst v) H' Q
def a6V(ops:Array Oper):List Oper→List r5→List AV→AHeap→List AHeap→(List AV→AHeap→Prop)→Prop
 | [],_,T,H,_,Q=>a8x T fun T=>Q T H
 |o::l,ds,T,H,older,Q=>match a1A ds o.after.toList 0 with
  |none=>False
  |some anc=>if b2h (fun j e=>anc.testBit j||o.apart ops e.o) 0 ds then a8x T fun T=>
    match a1m o with
    |some x=>c7e T x fun v=>a6V ops l (ds++[⟨o,anc,T,v,older.length,0,false,[]⟩]) (K1 T o.dst v) H older Q
    |none=>match r9 P o with
    |0=>b7 (a6h P E ops T H o) fun v=>a6V ops l (ds++[⟨o,anc,T,v,older.length,0,false,[]⟩]) (K1 T o.dst v) H older Q
    |1=>b7 (a6h P E ops T H o) fun v=>d3Q P E ops T o v (older.take (older.length - c5z anc 0 ds 0))∧a6V ops l (ds++[⟨o,anc,T,v,older.length,1,false,[]⟩]) (K1 T o.dst v) H older Q
    |_=>if b2h (fun j e=> !e.wr||anc.testBit j) 0 ds then
      b1O P E (J6 P E w0) ops T H o fun v H'=>b6S P E ops H' anc 0 ds∧a6V ops l (ds++[⟨o,anc,T,v,older.length,2,true,[]⟩]) (K1 T o.dst v) H' (H::older) Q
     else False
   else False
end
section
variable{P:Program}{E:j6}{w0:World}
theorem Rb.put{H:AHeap}{T:List AV}{ρ:B7}{w:World}(R:K9 E w0 H w ρ)(hf:P4 ρ H){a:Act}(hT:w5 ρ T a.tmps.toList):Rb E w0 H T:=⟨w,ρ,a.tmps,R,hf,hT⟩
theorem Rb.act{H:AHeap}{T:List AV}(h:Rb E w0 H T):∃(w:World) (ρ:B7) (a:Act),K9 E w0 H w ρ∧P4 ρ H∧w5 ρ T a.tmps.toList:=by
 obtain⟨w,ρ,vs,R,hf,hT⟩:=h
 exact⟨w,ρ, { tmps:=vs,defers:=[] },R,hf,hT⟩
theorem Rb.fine{H:AHeap}{T:List AV}(h:Rb E w0 H T):P8 H:=by
 obtain⟨w,ρ,vs,R,hf,hT⟩:=h
 exact R.fine hf
theorem FnW.sat{f:FuncId}{args:List AV}{H:AHeap}{Q:AV→AHeap→Prop}(h:FnW P E w0 f args H Q){w:World}{ρ:B7}{vargs:Array Value}(R:K9 E w0 H w ρ)(hf:P4 ρ H)(hr:w5 ρ args vargs.toList):
  ∃u ρ' v H' w',Q v H'∧Nx ρ ρ' H H'∧rel ρ' v u∧K9 E w0 H' w' ρ':=by
 obtain⟨e,w',fr,⟨u,ρ',v,H',_,h1,h2,h3,h4⟩,_⟩:=h w ρ vargs R hf hr []
 exact⟨u,ρ',v,H',w',h1,h2,h3,h4⟩
theorem H9.sat{c:Code}{T:List AV}{H:AHeap}{Q:o6→List AV→AHeap→Prop}(h:H9 P E w0 c T H Q)(hr:Rb E w0 H T):∃ex T' H',Q ex T' H'∧Rb E w0 H' T':=by
 obtain⟨w,ρ,a,R,hf,hT⟩:=hr.act
 obtain⟨e,a',w',h1,_⟩:=h w ρ a (fun _ _ _=>∃ex T' H',Q ex T' H'∧Rb E w0 H' T') R hf hT (fun ex T' H' a' w' hq hst=>by
  obtain⟨ρ',g1,g2,g3,g4,_⟩:=hst.fresh hf
  exact⟨ex,T',H',hq,Rb.put g4 g2 g3⟩) (Frame.enter P 0 #[] .normal) [] []
 exact h1
theorem J6.mono{f:FuncId}{args:List AV}{H:AHeap}{Q Q':AV→AHeap→Prop}(h:J6 P E w0 f args H Q)(hq:∀v H',Q v H'→Q' v H'):J6 P E w0 f args H Q':=fun hr=>by
 obtain⟨v,H',h1,h2⟩:=h hr
 exact⟨v,H',h1,hq _ _ h2⟩
theorem J6.use{f:FuncId}{args:List AV}{H:AHeap}{Q K:AV→AHeap→Prop}(h:J6 P E w0 f args H Q)(hk:∀v H',Q v H'→P8 H'→H.next≤H'.next→K v H'):J6 P E w0 f args H K:=fun hr=>by
 obtain⟨v,H',h1,h2⟩:=h hr
 obtain⟨w,ρ,vs,R,hf,hT⟩:=hr
 obtain⟨u,ρ',v',H'',w',⟨rfl,rfl⟩,g1,g2,g3⟩:=h1.sat R hf hT
 exact⟨v',H'',h1,hk _ _ h2 (g3.fine (hf.step g1)) g1.2.1⟩
theorem a4w.mono{c:Code}{T:List AV}{H:AHeap}{Q Q':o6→List AV→AHeap→Prop}(h:a4w P E w0 c T H Q)(hq:∀ex T' H',Q ex T' H'→Q' ex T' H'):a4w P E w0 c T H Q':=fun hr=>by
 obtain⟨ex,T',H',h1,h2⟩:=h hr
 exact⟨ex,T',H',h1,hq _ _ _ h2⟩
theorem J6.toW{f:FuncId}{args:List AV}{H:AHeap}{Q:AV→AHeap→Prop}(h:J6 P E w0 f args H Q):FnW P E w0 f args H Q:=by
 intro w ρ vargs R hf hr
 obtain⟨v,H',h1,h2⟩:=h ⟨w,ρ,vargs,R,hf,hr⟩
 refine(h1.mono fun v1 H1 e=> ?_) w ρ vargs R hf hr
 obtain⟨rfl,rfl⟩:=e
 exact h2
theorem d2c{ops:Array Oper}{T:List AV}{H:AHeap}{o:Oper}{K:AV→AHeap→Prop}(h:b1O P E (J6 P E w0) ops T H o K)(hr:Rb E w0 H T):
  a9d P E w0 ops T H o fun v H'=>K v H'∧Rb E w0 H' (K1 T o.dst v):=by
 obtain⟨w,ρ,a,R,hf,hT⟩:=hr.act
 unfold b1O at h
 unfold a9d
 generalize a0w ops T o=g at h ⊢
 cases g with
 |none=>exact h
 |some b=>cases b with
  |false=>exact⟨h,Rb.put R hf (a5C (dst:=o.dst) hT a5g)⟩
  |true=>
   have h':b7D (J6 P E w0) (opA P E T H o) K:=d8U h
   clear h
   simp only[a3c]
   unfold d4L
   unfold b7D at h'
   split at h'
   ·rename_i v H1 h1
    rw[h1]
    obtain⟨nx,vv,w',ρ',g1,g2,g3,g4,g5,g6,g7⟩:=a7C R h1 (a8a hT) hf.fresh
    exact⟨h',Rb.put g6 (hf.step ⟨g3,g7,g4⟩) (a5C (dst:=o.dst) (L5 g3 _ _ hT) g5)⟩
   ·rename_i f args H1 h1
    rw[h1]
    obtain⟨rfl,vargs,g1,g2⟩:=a7C R h1 (a8a hT)
    obtain⟨v,H',h2,h3⟩:=h' ⟨w,ρ,vargs,R,hf,g2⟩
    refine⟨v,H',h2,h3, ?_⟩
    obtain⟨u,ρ',v',H'',w',⟨rfl,rfl⟩,k1,k2,k3⟩:=h2.sat R hf g2
    exact Rb.put k3 (hf.step k1) (a5C (dst:=o.dst) (L5 k1.1 _ _ hT) k2)
   ·exact h'.elim
theorem c4o{ops:Array Oper}{T:List AV}{H:AHeap}{o:Oper}{K:AV→AHeap→Prop}(h:a9d P E w0 ops T H o K):∃v H',K v H'∧a9d P E w0 ops T H o fun v' H''=>v'=v∧H''=H':=by
 unfold a9d a3c at h ⊢
 split at h
 ·rename_i e
  unfold d4L at h ⊢
  split at h
  ·exact⟨_,_,h,rfl,rfl⟩
  ·obtain⟨v,H',h2,h3⟩:=h
   exact⟨v,H',h3,v,H',h2,rfl,rfl⟩
  ·cases h
 ·exact⟨_,_,h,rfl,rfl⟩
 ·cases h
theorem c7B{ops:Array Oper}{T:List AV}{H:AHeap}{o:Oper}(hk:r9 P o≤1){v:AV}(hv:a6h P E ops T H o=some v)(hr:Rb E w0 H T):Rb E w0 H (K1 T o.dst v):=by
 rw[←a5L hk]at hv
 have hs:=b7s (b3j (w0:=w0) hk hv)
 obtain⟨w,ρ,a,R,hf,hT⟩:=hr.act
 unfold a4g a3c at hs
 split at hs
 ·unfold d5A at hs
  split at hs
  ·rename_i v1 H1 h1
   obtain⟨rfl,rfl⟩:=hs
   obtain⟨nx,vv,w',ρ',g1,g2,g3,g4,g5,g6,g7⟩:=a7C R h1 (a8a hT) hf.fresh
   exact Rb.put g6 (hf.step ⟨g3,g7,g4⟩) (a5C (dst:=o.dst) (L5 g3 _ _ hT) g5)
  ·rename_i f args H1 h1
   obtain⟨rfl,vargs,g1,g2⟩:=a7C R h1 (a8a hT)
   obtain⟨u,ρ',v',H'',w',⟨rfl,rfl⟩,k1,k2,k3⟩:=hs.sat R hf g2
   exact Rb.put k3 (hf.step k1) (a5C (dst:=o.dst) (L5 k1.1 _ _ hT) k2)
  ·exact hs.elim
 ·obtain⟨rfl,_⟩:=hs
  exact Rb.put R hf (a5C (dst:=o.dst) hT a5g)
 ·exact hs.elim
theorem d1W{ops:Array Oper}:∀ {l:List Oper} {T:List AV} {H:AHeap} {Q:List AV→AHeap→Prop},b2g P E w0 ops l T H Q→Rb E w0 H T→∃T' H',d8j P E w0 ops l T H (fun T1 H1=>T1=T'∧H1=H')∧Q T' H'
 | [],T,H,Q,h,hr=>by simp only[b2g,D0]at h;exact⟨T,H,⟨rfl,rfl⟩,h⟩
 |o::l,T,H,Q,h,hr=>by
  simp only[b2g,D0]at h
  have val:r9 P o≤1→(b7 (a6h P E ops T H o) fun v=>b2g P E w0 ops l (K1 T o.dst v) H Q)→∃T' H',d8j P E w0 ops (o::l) T H (fun T1 H1=>T1=T'∧H1=H')∧Q T' H':=by
   intro hk h
   unfold b7 at h
   split at h
   ·rename_i v hv
    obtain⟨T',H',h1,h2⟩:=d1W h (c7B hk hv hr)
    refine⟨T',H',a7f hk ?_,h2⟩
    rw[hv]
    exact h1
   ·exact h.elim
  split at h
  ·rename_i x hx
   rw[Z5]at h
   obtain⟨hk,hv⟩:=a4V (P:=P) (E:=E) hx
   exact val (by omega) (by rw[hv];exact h)
  split at h
  ·rename_i hk
   exact val (by omega) h
  ·rename_i hk
   exact val (by omega) h
  ·obtain⟨v,H1,⟨h1,h2⟩,h3⟩:=c4o (d2c h hr)
   obtain⟨T',H',h4,h5⟩:=d1W h1 h2
   exact⟨T',H',a1L (b7s h3) fun v' H'' e=>by obtain⟨rfl,rfl⟩:=e;exact h4,h5⟩
theorem b1T{ops:Array Oper}:∀ {l:List Oper} {ds:List r5} {T:List AV} {H:AHeap} {older:List AHeap} {Q:List AV→AHeap→Prop},(∀d∈ds,d.hi=1→r9 P d.o≤1)→a6V P E w0 ops l ds T H older Q→Rb E w0 H T→b7b P E w0 ops l ds T H older Q
 | [],ds,T,H,older,Q,_,h,hr=>by simp only[a6V,D0]at h;exact h
 |o::l,ds,T,H,older,Q,hd,h,hr=>by
  have hd':∀d:r5,(d.hi=1→r9 P d.o≤1)→∀e∈ds++[d],e.hi=1→r9 P e.o≤1:=by
   intro d h1 e he
   rcases List.mem_append.1 he with he|he
   ·exact hd e he
   ·simp at he;subst he;exact h1
  simp only[a6V,D0]at h
  simp only[b7b]
  cases hanc:a1A ds o.after.toList 0 with
  |none=>rw[hanc]at h;exact h
  |some anc=>
   simp only[hanc]at h ⊢
   split at h
   ·rename_i hap
    rw[if_pos hap]
    cases hx:a1m o with
    |some x=>
     simp only[hx,Z5]at h
     obtain⟨hk,hv⟩:=a4V (P:=P) (E:=E) hx
     simp only[hk]
     rw[a5L (by omega),hv]
     exact b1T (hd' _ fun e=>by cases e) h (c7B (ops:=ops) (by omega) (hv _ _ _) hr)
    |none=>
    simp only[hx]at h
    rcases hk:r9 P o with _|_|k
    ·simp only[hk]at h ⊢
     rw[a5L (by omega)]
     unfold b7 at h ⊢
     split at h
     ·rename_i v hv
      exact b1T (hd' _ fun e=>by cases e) h (c7B (by omega) hv hr)
     ·exact h
    ·simp only[hk]at h ⊢
     rw[a5L (by omega)]
     unfold b7 at h ⊢
     split at h
     ·rename_i v hv
      exact⟨d4i (by omega) h.1,b1T (hd' _ fun _=>by simp only;omega) h.2 (c7B (by omega) hv hr)⟩
     ·exact h
    ·simp only[hk]at h ⊢
     split at h
     ·rename_i hw
      rw[if_pos hw]
      exact c8I (d2c h hr) fun v H' h'=>⟨c2T hd h'.1.1,b1T (hd' _ fun e=>by cases e) h'.1.2 h'.2⟩
     ·exact h.elim
   ·exact h.elim
theorem b7x{ops:Array Oper}:∀ {l:List Oper} {ds:List r5} {T:List AV} {H:AHeap} {older:List AHeap} {Q:List AV→AHeap→Prop},b7b P E w0 ops l ds T H older Q→∃T' H',b7b P E w0 ops l ds T H older (fun T1 H1=>T1=T'∧H1=H')∧Q T' H'
 | [],ds,T,H,older,Q,h=>⟨T,H,⟨rfl,rfl⟩,h⟩
 |o::l,ds,T,H,older,Q,h=>by
  simp only[b7b]at h ⊢
  split at h
  ·cases h
  ·rename_i anc hanc
   split at h
   ·rename_i hap
    simp only[if_pos hap]
    split at h
    ·unfold b7 at h ⊢
     split at h
     ·exact b7x h
     ·exact h.elim
    ·unfold b7 at h ⊢
     split at h
     ·obtain⟨T',H',h1,h2⟩:=b7x h.2
      exact⟨T',H',⟨h.1,h1⟩,h2⟩
     ·exact h.elim
    ·split at h
     ·rename_i hw
      simp only[if_pos hw]
      obtain⟨v,H1,⟨h1,h2⟩,h3⟩:=c4o h
      obtain⟨T',H',h4,h5⟩:=b7x h2
      exact⟨T',H',c8I h3 fun v' H'' e=>by obtain⟨rfl,rfl⟩:=e;exact⟨h1,h4⟩,h5⟩
     ·exact h.elim
   ·exact h.elim
theorem d7S{x y:Code}{T:List AV}{H:AHeap}{Q:o6→List AV→AHeap→Prop}
  (h:a4w P E w0 x T H fun ex T' H'=>match ex with| .normal=>a4w P E w0 y T' H' Q|e=>Q e T' H'):a4w P E w0 (.seq x y) T H Q:=by
 intro hr
 obtain⟨ex,T1,H1,h1,h2⟩:=h hr
 have hr1:Rb E w0 H1 T1:=by
  obtain⟨_,_,_,⟨rfl,rfl,rfl⟩,h3⟩:=h1.sat hr
  exact h3
 cases ex with
 |normal=>
  obtain⟨ex2,T2,H2,h3,h4⟩:=h2 hr1
  refine⟨ex2,T2,H2,b7k (h1.mono fun e T' H' hq=> ?_),h4⟩
  obtain⟨rfl,rfl,rfl⟩:=hq
  exact h3
 |exit id=>
  refine⟨.exit id,T1,H1,b7k (h1.mono fun e T' H' hq=> ?_),h2⟩
  obtain⟨rfl,rfl,rfl⟩:=hq
  exact⟨rfl,rfl,rfl⟩
 |ret=>
  refine⟨.ret,T1,H1,b7k (h1.mono fun e T' H' hq=> ?_),h2⟩
  obtain⟨rfl,rfl,rfl⟩:=hq
  exact⟨rfl,rfl,rfl⟩
theorem d3B{id:Nat}{x:Code}{T:List AV}{H:AHeap}{Q:o6→List AV→AHeap→Prop}(h:a4w P E w0 x T H (b3g id Q)):a4w P E w0 (.block id x) T H Q:=by
 intro hr
 obtain⟨ex,T1,H1,h1,h2⟩:=h hr
 cases ex with
 |normal=>
  refine⟨.normal,T1,H1,a5V (h1.mono fun e T' H' hq=> ?_),h2⟩
  obtain⟨rfl,rfl,rfl⟩:=hq
  exact⟨rfl,rfl,rfl⟩
 |ret=>
  refine⟨.ret,T1,H1,a5V (h1.mono fun e T' H' hq=> ?_),h2⟩
  obtain⟨rfl,rfl,rfl⟩:=hq
  exact⟨rfl,rfl,rfl⟩
 |exit id'=>
  simp only[b3g]at h2
  by_cases e:id'=id
  ·rw[if_pos e]at h2
   refine⟨.normal,T1,H1,a5V (h1.mono fun ex T' H' hq=> ?_),h2⟩
   obtain⟨rfl,rfl,rfl⟩:=hq
   simp[b3g,e]
  ·rw[if_neg e]at h2
   refine⟨.exit id',T1,H1,a5V (h1.mono fun ex T' H' hq=> ?_),h2⟩
   obtain⟨rfl,rfl,rfl⟩:=hq
   simp[b3g,e]
def e1e(P:Program)(E:j6)(w0:World)(c:Code)(ex:o6)(TF:List AV)(HF:AHeap):Nat→List AV→AHeap→Prop
 |0,T,H=>H9 P E w0 c T H fun e1 T1 H1=>e1=ex∧T1=TF∧H1=HF
 |k+1,T,H=>∃T' H',H9 P E w0 c T H (fun e1 T1 H1=>e1= .normal∧T1=T'∧H1=H')∧e1e P E w0 c ex TF HF k T' H'
theorem d5z{c:Code}{Q:o6→List AV→AHeap→Prop}{I:Nat→List AV→AHeap→Prop}
  (step:∀n T H,I n T H→a4w P E w0 c T H fun ex T' H'=>match ex with| .normal=>∃m,m<n∧I m T' H'|e=>Q e T' H')
  {n:Nat} {T:List AV} {H:AHeap} (h:I n T H):a4w P E w0 (.loop c) T H Q:=by
 intro hr
 have main:∀(n:Nat) (T:List AV) (H:AHeap),I n T H→Rb E w0 H T→∃ex TF HF k,ex≠ .normal∧e1e P E w0 c ex TF HF k T H∧Q ex TF HF:=by
  intro n
  induction n using Nat.strongRecOn with
  |ind n ih=>
   intro T H hI hr
   obtain⟨ex,T1,H1,h1,h2⟩:=step n T H hI hr
   cases ex with
   |normal=>
    have hr1:Rb E w0 H1 T1:=by
     obtain⟨_,_,_,⟨rfl,rfl,rfl⟩,h3⟩:=h1.sat hr
     exact h3
    obtain⟨m,hm,hI'⟩:=h2
    obtain⟨ex,TF,HF,k,a,b,c⟩:=ih m hm T1 H1 hI' hr1
    exact⟨ex,TF,HF,k+1,a,⟨T1,H1,h1,b⟩,c⟩
   |exit id=>exact⟨.exit id,T1,H1,0,(fun e=>by cases e),h1,h2⟩
   |ret=>exact⟨.ret,T1,H1,0,(fun e=>by cases e),h1,h2⟩
 obtain⟨ex,TF,HF,k,a,b,hq⟩:=main n T H h hr
 refine⟨ex,TF,HF,c9p (I:=e1e P E w0 c ex TF HF) ?_ b,hq⟩
 intro n T H hR
 cases n with
 |zero=>
  refine H9.mono hR fun e T' H' hq=> ?_
  obtain⟨rfl,rfl,rfl⟩:=hq
  cases e with
  |normal=>exact(a rfl).elim
  |exit id=>exact⟨rfl,rfl,rfl⟩
  |ret=>exact⟨rfl,rfl,rfl⟩
 |succ k=>
  obtain⟨T1,H1,h1,h2⟩:=hR
  refine H9.mono h1 fun e T' H' hq=> ?_
  obtain⟨rfl,rfl,rfl⟩:=hq
  exact⟨k,Nat.lt_succ_self k,h2⟩
theorem d7K{c:Code}{T:List AV}{H:AHeap}{Q:o6→List AV→AHeap→Prop}{ex:o6}(hq:Q ex T H)(h:∀Q',Q' ex T H→H9 P E w0 c T H Q'):a4w P E w0 c T H Q:=fun _=>⟨ex,T,H,h _ ⟨rfl,rfl,rfl⟩,hq⟩
theorem b6v{H:AHeap}{T:List AV}{l:List ResultVar}{K K':List AV→Prop}(h:P0 P E H T l K)(hk:∀vs,K vs→K' vs):P0 P E H T l K':=by
 induction l generalizing K K' with
 |nil=>exact hk _ h
 |cons r l ih=>
  cases r with
  |tmp t=>exact ih h fun vs hv=>hk _ hv
  |cell a t=>
   simp only[P0]at h ⊢
   split at h
   ·unfold b7 at h ⊢
    split at h
    ·exact ih h fun vs hv=>hk _ hv
    ·exact h.elim
   ·exact h.elim
theorem b5O{H:AHeap}{T:List AV}:∀ {l:List ResultVar} {K:List AV→Prop},P0 P E H T l K→∃vs,K vs∧P0 P E H T l fun vs'=>vs'=vs
 | [],K,h=>⟨[],h,rfl⟩
 | .tmp t::l,K,h=>by
  obtain⟨vs,h1,h2⟩:=b5O (l:=l) h
  refine⟨_,h1, ?_⟩
  simp only[P0]
  exact b6v h2 fun vs' e=>by rw[e]
 | .cell a t::l,K,h=>by
  simp only[P0]at h
  split at h
  ·rename_i o i e
   unfold b7 at h
   split at h
   ·rename_i v hv
    obtain⟨vs,h1,h2⟩:=b5O (l:=l) h
    refine⟨_,h1, ?_⟩
    simp only[P0,e,hv,d1j]
    exact b6v h2 fun vs' e=>by rw[e]
   ·cases h
  ·cases h
theorem d4q{f:FuncId}{fn:Func}{c:Code}(hfn:P.funcs[f]? =some fn)(hb:fn.body=some c){args:List AV}{H:AHeap}{Q:AV→AHeap→Prop}
  (h:a4w P E w0 c (args++List.replicate (fn.ntmps - args.length) A8) H (e0P P E fn Q)):J6 P E w0 f args H Q:=by
 intro hr
 have hr':Rb E w0 H (args++List.replicate (fn.ntmps - args.length) A8):=by
  obtain⟨w,ρ,vs,R,hf,hT⟩:=hr
  refine⟨w,ρ,vs++Array.replicate (fn.ntmps - args.length) undef,R,hf, ?_⟩
  rw[Array.toList_append,Array.toList_replicate]
  refine W9 hT ?_
  generalize fn.ntmps - args.length=m
  induction m with
  |zero=>exact u9.2 rfl
  |succ m ihm=>exact r7.2 ⟨a5g,ihm⟩
 obtain⟨ex,T',H',h1,h2⟩:=h hr'
 have h3:ex≠ .normal∧ex≠ .ret→False:=fun⟨a,b⟩=>by
  cases ex with
  |normal=>exact a rfl
  |ret=>exact b rfl
  |exit id=>exact h2
 have h2':P0 P E H' T' fn.results.toList fun vs=>Q (b8z vs) H':=by
  cases ex with
  |normal=>exact h2
  |ret=>exact h2
  |exit id=>exact(h3 ⟨(fun e=>by cases e),(fun e=>by cases e)⟩).elim
 obtain⟨vs,hq,hres⟩:=b5O h2'
 refine⟨b8z vs,H',c4W hfn hb (h1.mono fun e T1 H1 he=> ?_),hq⟩
 obtain⟨rfl,rfl,rfl⟩:=he
 have hres':P0 P E H1 T1 fn.results.toList fun vs'=>b8z vs'=b8z vs∧H1=H1:=b6v hres fun vs' e=>⟨by rw[e],rfl⟩
 cases e with
 |normal=>exact hres'
 |ret=>exact hres'
 |exit id=>exact(h3 ⟨(fun e=>by cases e),(fun e=>by cases e)⟩).elim
end
end Go.Am
end
