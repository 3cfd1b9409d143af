/-
  BlocksCutsSaid: part Pah of its proof.
-/
import Derived.Test.YtdkidgkiplcggaaPag
set_option linter.unusedVariables false
set_option linter.unusedSimpArgs false
set_option maxRecDepth 100000
section
namespace Go.Am
structure a4P where
 w:World
 X:AV→AHeap→Prop
instance:Coe a4P World:=⟨a4P.w⟩
def c6B(w:World):a4P:=⟨w,fun _ _=>False⟩
section
variable(P:Program)(E:g8)(w0:a4P)
def M5(ρ:u5)(H:AHeap):Prop:=∀k,H.next≤k→ρ k=none
def Nx(ρ ρ':u5)(H H':AHeap):Prop:=Ext ρ ρ'∧H.next≤H'.next∧∀k,¬(H.next≤k∧k<H'.next)→ρ' k=ρ k
def c4v(u:Value):List PanicEntry:=[{ v:=u,recovered:=false }]
def b5t(ρ:u5)(H:AHeap)(Q:AV→AHeap→Prop):Ending→World→Prop
 | .returned u,w'=>∃ρ' v H',Q v H'∧Nx ρ ρ' H H'∧rel ρ' v u∧B6 E w0 H' w' ρ'
 | .panicked c,w'=>∃u ρ' v H',c=c4v u∧w0.X v H'∧Nx ρ ρ' H H'∧rel ρ' v u∧B6 E w0 H' w' ρ'
 | .outgrown,_=>False
def FnW(f:FuncId)(args:List AV)(H:AHeap)(Q:AV→AHeap→Prop):Prop:=
 ∀(w:World) (ρ:u5) (vargs:Array Value),B6 E w0 H w ρ→M5 ρ H→m6 ρ args vargs.toList→Calls P f vargs w (b5t E w0 ρ H Q)
def c5S(T:List AV)(H:AHeap)(o:Oper):Prop:=match o.op with
 | .panic x=>(∃t v,i4 T x= .ifc t v)∧w0.X (i4 T x) H
 |_=>False
def a7Q(H:AHeap)(t:TypeId)(x:AV)(Q:AV→AHeap→Prop):Prop:=match P.underlying t,x with
 |some (.map _ _), .map k=>match H.get k with
  |some (.map _ clock)=>Q (.ptr (.new H.next) 0) (H.new (.iter k clock [] clock))
  |_=>False
 |_,_=>False
def c2r(H:AHeap)(it:AV)(Q:AV→AHeap→Prop):Prop:=match it with
 | .ptr (.new j) 0=>match H.get j with
  |some (.iter k since seen last)=>match H.get k with
   |some (.map es clock)=>(∀e∈es,e.2.2<since)∧(seen=[]∨es=[]∨∃e∈es,e.2.2<last)∧
     (∀e∈es,e.2.2 ∉ seen→Q (.tup [.bool true,e.1,e.2.1]) (H.set j (.iter k since (seen++[e.2.2]) clock)))∧((∀e∈es,e.2.2∈seen)→Q (.tup [.bool false]) H)
   |_=>False
  |_=>False
 |_=>False
def a7J(H:AHeap)(it:AV)(Q:AV→AHeap→Prop):Prop:=match it with
 | .ptr (.new j) 0=>match H.get j with
  |some (.iter k _ seen last)=>match H.get k with
   |some (.map es clock)=>clock=last∧(es.map (·.2.2)).Nodup∧∃e∈es,seen.getLast? =some e.2.2∧Q (.tup [e.1,e.2.1]) H
   |_=>False
  |_=>False
 |_=>False
def b9r(s:Bool)(H:AHeap)(it:AV)(Q:AV→AHeap→Prop):Prop:=match s with
 |true=>False
 |false=>c2r H it Q
def a7b(T:List AV)(H:AHeap)(o:Oper)(Q:AV→AHeap→Prop):Prop:=match o.op with
 | .range t x=>a7Q P H t (i4 T x) Q
 | .next it s=>b9r s H (i4 T it) Q
 | .entry it=>a7J H (i4 T it) Q
 |_=>False
def b7Z(T:List AV)(H:AHeap)(o:Oper)(r:Option W7)(Q:AV→AHeap→Prop):Prop:=match r with
 |some (.val v H')=>Q v H'
 |some (.call f args H')=>FnW P E w0 f args H' Q
 |none=>c5S w0 T H o∨a7b P T H o Q
def c9S(g:AV)(want:Bool):Option Bool:=match g with
 | .bool b=>some (b==want)
 | .opq _=>none
 |_=>some false
def a6g(r:Option Bool)(s:(AV→AHeap→Prop)→Prop)(H:AHeap)(Q:AV→AHeap→Prop):Prop:=match r with
 |some true=>s Q
 |some false=>Q s8 H
 |none=>False
def a1t(ops:Array Oper)(T:List AV)(H:AHeap)(o:Oper)(Q:AV→AHeap→Prop):Prop:=
 a6g (U8 ops T o) (b7Z P E w0 T H o (V8 P E T H o)) H Q
def c0v(ops:Array Oper):List Oper→List AV→AHeap→(List AV→AHeap→Prop)→Prop
 | [],T,H,Q=>Q T H
 |o::l,T,H,Q=>a1t P E w0 ops T H o fun v H'=>c0v ops l (a0X T o.dst v) H' Q
def StA(H:AHeap)(ρ:u5)(ds:List Deferred)(T':List AV)(H':AHeap)(a':Act)(w':World):Prop:=
 ∃ρ',Nx ρ ρ' H H'∧m6 ρ' T' a'.tmps.toList∧B6 E w0 H' w' ρ'∧a'.defers=ds
def b4y(H:AHeap)(ρ:u5)(ds:List Deferred)(R:Exit→Act→World→Prop):Prop:=
 ∀u v ρ' H' a' w',w0.X v H'→Nx ρ ρ' H H'→rel ρ' v u→B6 E w0 H' w' ρ'→a'.defers=ds→R (.panic (c4v u)) a' w'
def E6(c:Code)(T:List AV)(H:AHeap)(Q:j7→List AV→AHeap→Prop):Prop:=
 ∀(w:World) (ρ:u5) (a:Act) (R:Exit→Act→World→Prop),B6 E w0 H w ρ→M5 ρ H→m6 ρ T a.tmps.toList→
  (∀ex T' H' a' w',Q ex T' H'→StA E w0 H ρ a.defers T' H' a' w'→R (c8o ex) a' w')→b4y E w0 H ρ a.defers R→c.wp P R a w
end
section
variable{P:Program}{E:g8}{w0:a4P}
theorem Nx.refl(ρ:u5)(H:AHeap):Nx ρ ρ H H:=⟨Ext.refl _,Nat.le_refl _,fun _ _=>rfl⟩
theorem Nx.trans{ρ ρ1 ρ2:u5}{H H1 H2:AHeap}(h:Nx ρ ρ1 H H1)(h':Nx ρ1 ρ2 H1 H2):Nx ρ ρ2 H H2:=by
 obtain⟨a,b,c⟩:=h
 obtain⟨a',b',c'⟩:=h'
 exact⟨a.trans a',by omega,fun k hk=>by rw[c' k (by omega),c k (by omega)]⟩
theorem M5.step{ρ ρ':u5}{H H':AHeap}(h:M5 ρ H)(h':Nx ρ ρ' H H'):M5 ρ' H':=fun k hk=>by
 obtain⟨_,b,c⟩:=h'
 rw[c k (by omega),h k (by omega)]
theorem M5.fresh{ρ:u5}{H H':AHeap}(h:M5 ρ H):a1w ρ H H':=fun k hk _=>h k hk
theorem StA.trans{H0 H1 H2:AHeap}{ρ0 ρ1:u5}{ds:List Deferred}{T:List AV}{a:Act}{w:World}(h1:Nx ρ0 ρ1 H0 H1)(h:StA E w0 H1 ρ1 ds T H2 a w):StA E w0 H0 ρ0 ds T H2 a w:=by
 obtain⟨ρ,g1,g2,g3,g4⟩:=h
 exact⟨ρ,h1.trans g1,g2,g3,g4⟩
theorem StA.fresh{H0 H:AHeap}{ρ0:u5}{ds:List Deferred}{T:List AV}{a:Act}{w:World}(h:StA E w0 H0 ρ0 ds T H a w)(hf:M5 ρ0 H0):
  ∃ρ,Nx ρ0 ρ H0 H∧M5 ρ H∧m6 ρ T a.tmps.toList∧B6 E w0 H w ρ∧a.defers=ds:=by
 obtain⟨ρ,g1,g2,g3,g4⟩:=h
 exact⟨ρ,g1,hf.step g1,g2,g3,g4⟩
theorem b4y.trans{H0 H:AHeap}{ρ0 ρ:u5}{ds:List Deferred}{R:Exit→Act→World→Prop}(h:b4y E w0 H0 ρ0 ds R)(h1:Nx ρ0 ρ H0 H):b4y E w0 H ρ ds R:=fun u v ρ' H' a' w' hx hn=>h u v ρ' H' a' w' hx (h1.trans hn)
theorem b5t.mono{ρ:u5}{H:AHeap}{Q Q':AV→AHeap→Prop}(hq:∀v H',Q v H'→Q' v H'){e:Ending}{w:World}(h:b5t E w0 ρ H Q e w):b5t E w0 ρ H Q' e w:=by
 cases e with
 |returned u=>
  obtain⟨ρ',v,H',h2,h3⟩:=h
  exact⟨ρ',v,H',hq _ _ h2,h3⟩
 |panicked c=>exact h
 |outgrown=>exact h
theorem FnW.mono{f:FuncId}{args:List AV}{H:AHeap}{Q Q':AV→AHeap→Prop}(h:FnW P E w0 f args H Q)(hq:∀v H',Q v H'→Q' v H'):FnW P E w0 f args H Q':=
 fun w ρ vargs R hf hr=>Calls.mono (h w ρ vargs R hf hr) fun e w' he=>he.mono hq
theorem E6.mono{c:Code}{T:List AV}{H:AHeap}{Q Q':j7→List AV→AHeap→Prop}(h:E6 P E w0 c T H Q)(hq:∀ex T' H',Q ex T' H'→Q' ex T' H'):E6 P E w0 c T H Q':=
 fun w ρ a R hR hf hT hk hp=>h w ρ a R hR hf hT (fun ex T' H' a' w' hQ=>hk ex T' H' a' w' (hq _ _ _ hQ)) hp
theorem b4j{H:AHeap}{t:TypeId}{x:AV}{Q Q':AV→AHeap→Prop}(hq:∀v H',Q v H'→Q' v H')(h:a7Q P H t x Q):a7Q P H t x Q':=by
 unfold a7Q at*
 split at h
 ·split at h
  ·exact hq _ _ h
  ·exact h.elim
 ·exact h.elim
theorem b6B{H:AHeap}{s:Bool}{x:AV}{Q Q':AV→AHeap→Prop}(hq:∀v H',Q v H'→Q' v H')(h:b9r s H x Q):b9r s H x Q':=by
 cases s with
 |true=>exact h.elim
 |false=>
  unfold b9r c2r at*
  simp only at h ⊢
  split at h
  ·split at h
   ·split at h
    ·obtain⟨a,b,c,d⟩:=h
     exact⟨a,b,fun e he hs=>hq _ _ (c e he hs),fun hs=>hq _ _ (d hs)⟩
    ·exact h.elim
   ·exact h.elim
  ·exact h.elim
theorem b3P{H:AHeap}{x:AV}{Q Q':AV→AHeap→Prop}(hq:∀v H',Q v H'→Q' v H')(h:a7J H x Q):a7J H x Q':=by
 unfold a7J at*
 split at h
 ·split at h
  ·split at h
   ·obtain⟨a,b,e,c,d,f⟩:=h
    exact⟨a,b,e,c,d,hq _ _ f⟩
   ·exact h.elim
  ·exact h.elim
 ·exact h.elim
theorem c3b{T:List AV}{H:AHeap}{o:Oper}{Q Q':AV→AHeap→Prop}(h:a7b P T H o Q)(hq:∀v H',Q v H'→Q' v H'):a7b P T H o Q':=by
 unfold a7b at*
 split at h
 ·exact b4j hq h
 ·exact b6B hq h
 ·exact b3P hq h
 ·exact h.elim
theorem b6f{ρ:u5}:∀ {es:List (AV×AV×Nat)} {l:List MapEntry},a0d ρ es l→(es.map (·.2.2)=l.map (·.born))∧(∀e∈es,∃x∈l,rel ρ e.1 x.key∧rel ρ e.2.1 x.val∧x.born=e.2.2)∧∀x∈l,∃e∈es,rel ρ e.1 x.key∧rel ρ e.2.1 x.val∧x.born=e.2.2
 | [],l,h=>by
  simp only[a0d]at h
  subst h
  exact⟨rfl,fun e h=>(by cases h),fun x h=>(by cases h)⟩
 |(k,v,n)::es,l,h=>by
  simp only[a0d]at h
  obtain⟨x,r,rfl,h1,h2,h3,h4⟩:=h
  obtain⟨g1,g2,g3⟩:=b6f h4
  refine⟨by simp[g1,h3],fun e he=> ?_,fun y hy=> ?_⟩
  ·rcases List.mem_cons.1 he with rfl|he
   ·exact⟨x,List.mem_cons_self,h1,h2,h3⟩
   ·obtain⟨y,a,b⟩:=g2 e he
    exact⟨y,List.mem_cons_of_mem _ a,b⟩
  ·rcases List.mem_cons.1 hy with rfl|hy
   ·exact⟨_,List.mem_cons_self,h1,h2,h3⟩
   ·obtain⟨e,a,b⟩:=g3 y hy
    exact⟨e,List.mem_cons_of_mem _ a,b⟩
theorem c2A{T:List AV}{H:AHeap}{o:Oper}{Q:AV→AHeap→Prop}(h:a7b P T H o Q){w:World}{ρ:u5}{w0:World}(R:B6 E w0 H w ρ){f:Operand→Value}(hr:∀x,rel ρ (i4 T x) (f x))(hf:M5 ρ H):
  ∃v H' ρ' vv w',Q v H'∧Nx ρ ρ' H H'∧rel ρ' v vv∧B6 E w0 H' w' ρ'∧(execOp f o).run P w= .ok (.value vv) w':=by
 have up:∀ {s:Sem Value} {vv:Value} {w':World},s.run P w= .ok vv w'→((do pure (Next.value (←s)):Sem Next).run P w)= .ok (.value vv) w':=fun h=>by simp only[Sem.run_bind,h,Result.andThen_ok,Sem.run_pure]
 have spot:∀ {it:Operand} {j k since last:Nat} {seen:List Nat},i4 T it= .ptr (.new j) 0→H.get j=some (.iter k since seen last)→∃l lm,ρ j=some l∧ρ k=some lm∧f it= .pointer (some ⟨l.blk,0,none⟩)∧w.heap[l.blk]? =some (.mapIter (some lm.blk) since seen.toArray last):=fun{it} _ _ _ _ _ e hj=>by
  have hx:=hr it
  rw[e]at hx
  obtain⟨l,hl,_,hd0,lm,hm,hb⟩:=R.objs _ _ hj
  simp only[rel]at hx
  obtain⟨b,d,h4,h5⟩:=hx
  simp only[E4,hl,Option.map_some,Option.some.injEq,Prod.mk.injEq]at h4
  obtain⟨rfl,rfl⟩:=h4
  rw[hd0]at h5
  exact⟨l,lm,hl,hm,h5,hb⟩
 obtain⟨dst,op,ty,pos,after,guard⟩:=o
 unfold a7b at h
 simp only at h
 split at h
 ·rename_i t x
  unfold a7Q at h
  split at h
  ·rename_i ht e
   have hx:=hr x
   rw[e]at hx
   split at h
   ·rename_i k es clock hk
    obtain⟨l,mes,h1,h2,h3⟩:=R.mapOf hk
    simp only[rel]at hx
    obtain⟨l',h4,h5⟩:=hx
    rw[h1]at h4;cases h4
    have hn:=hf H.next (Nat.le_refl _)
    refine⟨_,_,upd ρ H.next ⟨w.heap.size,0,0⟩, .pointer (some ⟨w.heap.size,0,none⟩),_,h,⟨a0E _ hn,by simp,fun j hj=> ?_⟩, ?_,R.newIter hn h1, ?_⟩
    ·rw[t6]
     rintro rfl
     exact hj ⟨Nat.le_refl _,by simp⟩
    ·simp only[rel]
     exact⟨w.heap.size,0,by simp[E4,A8],rfl⟩
    ·refine up (s:=Instr.range t (f x)) ?_
     rw[h5]
     exact b6O ht h2
   ·exact h.elim
  ·exact h.elim
 ·rename_i it s
  cases s with
  |true=>exact h.elim
  |false=>
  unfold b9r c2r at h
  simp only at h
  split at h
  ·rename_i j e
   split at h
   ·rename_i k since seen last hj
    split at h
    ·rename_i es clock hk
     obtain⟨a,b,c,d⟩:=h
     obtain⟨l,lm,hl,hm,hfi,hb⟩:=spot e hj
     obtain⟨l2,mes,h1,h2,h3⟩:=R.mapOf hk
     rw[hm]at h1;cases h1
     obtain⟨g1,g2,g3⟩:=b6f h3
     have hold:∀x∈mes.toList,x.born<since:=fun x hx=>by
      obtain⟨e',he',_,_,hb'⟩:=g3 x hx
      rw[hb'];exact a e' he'
     have htest:(!seen.toArray.isEmpty&& !mes.isEmpty&&mes.all fun x=>decide (x.born≥last))=false:=by
      rcases b with rfl|rfl|⟨e',he',hlt⟩
      ·simp
      ·simp only[a0d]at h3
       have:mes= #[]:=by cases mes;simp_all
       subst this
       simp
      ·obtain⟨x,hx,_,_,hb'⟩:=g2 e' he'
       have:(mes.all fun x=>decide (x.born≥last))=false:=by
        rw[Array.all_eq_false]
        obtain⟨i,hi,hxi⟩:=Array.getElem_of_mem (Array.mem_toList_iff.1 hx)
        exact⟨i,hi,by rw[hxi];simp;omega⟩
       rw[this,Bool.and_false]
     rcases b8i (P:=P) (ty:=ty) hb h2 hold htest with ⟨q1,q2⟩|⟨x,q1,q2,w1,q3,q4⟩
     ·refine⟨_,_,ρ, .tuple #[.bool false],w,d fun e' he'=> ?_,Nx.refl _ _, ?_,R, ?_⟩
      ·obtain⟨x,hx,_,_,hb'⟩:=g2 e' he'
       rw[←hb'];simpa using q1 x hx
      ·simp only[rel,m6]
       exact⟨_,rfl,_,_,rfl,rfl,rfl⟩
      ·refine up (s:=Instr.next (f it) false ty) ?_
       rw[hfi];exact q2
     ·obtain⟨e',he',r1,r2,r3⟩:=g3 x q1
      have hs:seen.toArray.push x.born=(seen++[e'.2.2]).toArray:=by rw[r3];simp
      refine⟨_,_,ρ, .tuple #[.bool true,x.key,x.val],_,c e' he' (by rw[←r3];simpa using q2),⟨Ext.refl _,by simp,fun _ _=>rfl⟩, ?_,(R.like q3).setIter hj hl hm, ?_⟩
      ·simp only[rel,m6]
       exact⟨_,rfl,_,_,rfl,rfl,_,_,rfl,r1,_,_,rfl,r2,rfl⟩
      ·refine up (s:=Instr.next (f it) false ty) ?_
       rw[hfi,q4,hs]
    ·exact h.elim
   ·exact h.elim
  ·exact h.elim
 ·rename_i it
  unfold a7J at h
  split at h
  ·rename_i j e
   split at h
   ·rename_i k since seen last hj
    split at h
    ·rename_i es clock hk
     obtain⟨rfl,hn,e',he',hs,hq⟩:=h
     obtain⟨l,lm,hl,hm,hfi,hb⟩:=spot e hj
     obtain⟨l2,mes,h1,h2,h3⟩:=R.mapOf hk
     rw[hm]at h1;cases h1
     obtain⟨g1,g2,g3⟩:=b6f h3
     obtain⟨x,hx,r1,r2,r3⟩:=g2 e' he'
     refine⟨_,_,ρ, .tuple #[x.key,x.val],w,hq,Nx.refl _ _, ?_,R, ?_⟩
     ·simp only[rel,m6]
      exact⟨_,rfl,_,_,rfl,r1,_,_,rfl,r2,rfl⟩
     ·refine up (s:=Instr.entry (f it)) ?_
      rw[hfi]
      exact b5U hb (by rw[r3,List.back?_toArray];exact hs) h2 hx (by rw[←g1];exact hn)
    ·exact h.elim
   ·exact h.elim
  ·exact h.elim
 ·exact h.elim
theorem c5F{T:List AV}{H:AHeap}{o:Oper}{r:Option W7}{Q Q':AV→AHeap→Prop}(h:b7Z P E w0 T H o r Q)(hq:∀v H',Q v H'→Q' v H'):b7Z P E w0 T H o r Q':=by
 unfold b7Z at*
 split
 ·exact hq _ _ h
 ·exact FnW.mono h hq
 ·exact h.imp id fun h=>c3b h hq
theorem a0I{ops:Array Oper}{T:List AV}{H:AHeap}{o:Oper}{Q Q':AV→AHeap→Prop}(h:a1t P E w0 ops T H o Q)(hq:∀v H',Q v H'→Q' v H'):a1t P E w0 ops T H o Q':=by
 unfold a1t a6g at*
 split<;>rename_i e<;>rw[e]at h
 ·exact c5F h hq
 ·exact hq _ _ h
 ·exact h
theorem a4o{ops:Array Oper}{T:List AV}{H:AHeap}{o:Oper}{Q:AV→AHeap→Prop}(h:a1t P E w0 ops T H o Q){i:Nat}(ho:ops[i]? =some o)
  {w:World} {ρ:u5} (R:B6 E w0 H w ρ) {a:Act} (hT:m6 ρ T a.tmps.toList) (hf:M5 ρ H) {K:Act→World→Prop} {S:Exit→Act→World→Prop}
  (hK:∀v H' ρ' vv w',Q v H'→Nx ρ ρ' H H'→rel ρ' v vv→B6 E w0 H' w' ρ'→K (a.put o.dst vv) w') (hP:b4y E w0 H ρ a.defers S):wpOp P ops S i K a w:=by
 unfold wpOp
 rw[ho]
 simp only
 unfold a1t a6g at h
 split at h
 ·rename_i hw
  rw[b7d hw hT,if_pos rfl]
  left
  unfold Oper.wp
  unfold b7Z at h
  split at h
  ·rename_i v1 H1 h1
   obtain⟨nx,vv,w',ρ',g1,g2,g3,g4,g5,g6,g7⟩:=a8E R h1 (a3B hT) hf.fresh
   rw[g1]
   rcases g2 with rfl|⟨rfl,rfl⟩
   ·exact hK _ _ ρ' vv w' h ⟨g3,g7,g4⟩ g5 g6
   ·exact hK _ _ ρ' undef w' h ⟨g3,g7,g4⟩ g5 g6
  ·rename_i f args H1 h1
   obtain⟨rfl,vargs,g1,g2⟩:=a8E R h1 (a3B hT)
   rw[g1]
   refine Calls.mono (h w ρ vargs R hf g2) ?_
   intro e w' he
   cases e with
   |returned u=>
    obtain⟨ρ',v,H',k1,k2,k3,k4⟩:=he
    exact hK _ _ ρ' u w' k1 k2 k3 k4
   |panicked c=>
    obtain⟨u,ρ',v,H',rfl,k1,k2,k3,k4⟩:=he
    exact hP u v ρ' H' a w' k1 k2 k3 k4 rfl
   |outgrown=>exact he.elim
  ·rcases Or.symm h with h|h
   ·obtain⟨v,H',ρ',vv,w',g1,g2,g3,g4,g5⟩:=c2A h R (a3B hT) hf
    rw[g5]
    exact hK _ _ ρ' vv w' g1 g2 g3 g4
   unfold c5S at h
   split at h
   ·rename_i x hx
    obtain⟨⟨t,v,e⟩,hX⟩:=h
    have hr:=a3B hT x
    rw[e]at hr hX
    have hr':=hr
    simp only[rel]at hr
    obtain⟨y,hy,_⟩:=hr
    have hrun:(execOp a.eval o).run P w= .halt (.panic (.iface t y)) w:=by
     obtain⟨dst,op,ty,pos,after,guard⟩:=o
     simp only at hx
     subst hx
     simp only[execOp,hy]
     rfl
    rw[hrun,Oper.upon_panic]
    rw[hy]at hr'
    exact hP _ _ ρ H a w hX (Nx.refl _ _) hr' R rfl
   ·cases h
 ·rename_i hw
  rw[b7d hw hT,if_neg Bool.false_ne_true]
  exact hK _ _ ρ undef w h (Nx.refl _ _) a8H R
 ·cases h
theorem b0G{ops:Array Oper}{S:Exit→Act→World→Prop}:∀(l:List Oper) (i:Nat) (T:List AV) (H:AHeap) (Q:List AV→AHeap→Prop),c0v P E w0 ops l T H Q→ops.toList.drop i=l→
  ∀(w:World) (ρ:u5) (a:Act),B6 E w0 H w ρ→m6 ρ T a.tmps.toList→M5 ρ H→(∀T' H' a' w',Q T' H'→StA E w0 H ρ a.defers T' H' a' w'→S .normal a' w')→b4y E w0 H ρ a.defers S→
   wpOps P ops S (List.range' i l.length) a w
 | [],i,T,H,Q,h,_,w,ρ,a,R,hT,hf,hQ,hP=>by
  simp only[List.length_nil,List.range'_zero,wpOps]
  exact hQ T H a w h ⟨ρ,Nx.refl _ _,hT,R,rfl⟩
 |o::l,i,T,H,Q,h,hl,w,ρ,a,R,hT,hf,hQ,hP=>by
  have hdr:ops.toList.drop (i+1)=l:=by
   have:=congrArg List.tail hl
   rw[List.tail_drop]at this
   exact this
  have ho:ops[i]? =some o:=by
   have:(ops.toList.drop i)[0]? =some o:=by rw[hl];rfl
   rw[List.getElem?_drop]at this
   simpa using this
  have hlen:(List.range' i (o::l).length)=i::List.range' (i+1) l.length:=by
   simp[List.range'_succ]
  rw[hlen,wpOps_cons]
  refine a4o h ho R hT hf ?_ hP
  intro v H1 ρ' vv w' g0 g1 g2 g3
  refine b0G l (i+1) _ _ _ g0 hdr w' ρ' _ g3 (a8G (H5 g1.1 _ _ hT) g2) (hf.step g1) ?_ (by rw[I7];exact hP.trans g1)
  intro T' H' a' w'' hq hst
  rw[I7]at hst
  exact hQ T' H' a' w'' hq (StA.trans g1 hst)
theorem c3M{T:List AV}{H:AHeap}{Q:j7→List AV→AHeap→Prop}(h:Q .normal T H):E6 P E w0 .skip T H Q:=
 fun w ρ a R hR hf hT hk _=>wp_skip (hk _ _ _ _ _ h ⟨ρ,Nx.refl _ _,hT,hR,rfl⟩)
theorem c1P{l:Nat}{T:List AV}{H:AHeap}{Q:j7→List AV→AHeap→Prop}(h:Q .normal T H):E6 P E w0 (.label l) T H Q:=
 fun w ρ a R hR hf hT hk _=>wp_label (hk _ _ _ _ _ h ⟨ρ,Nx.refl _ _,hT,hR,rfl⟩)
theorem b3b{T:List AV}{H:AHeap}{Q:j7→List AV→AHeap→Prop}(h:Q .ret T H):E6 P E w0 .ret T H Q:=
 fun w ρ a R hR hf hT hk _=>wp_ret (hk _ _ _ _ _ h ⟨ρ,Nx.refl _ _,hT,hR,rfl⟩)
theorem c2X{id:Nat}{T:List AV}{H:AHeap}{Q:j7→List AV→AHeap→Prop}(h:Q (.exit id) T H):E6 P E w0 (.exit id) T H Q:=
 fun w ρ a R hR hf hT hk _=>wp_exit (hk _ _ _ _ _ h ⟨ρ,Nx.refl _ _,hT,hR,rfl⟩)
theorem b9L{id:Nat}{ops:Array Oper}{T:List AV}{H:AHeap}{Q:j7→List AV→AHeap→Prop}(h:c0v P E w0 ops ops.toList T H (Q .normal)):E6 P E w0 (.region id ops false) T H Q:=by
 intro w ρ a R hR hf hT hk hp
 refine wp_region ?_
 have:=b0G (S:=R) ops.toList 0 T H _ h rfl w ρ a hR hT hf (fun T' H' a' w' hq hst=>hk _ _ _ _ _ hq hst) hp
 rwa [List.range_eq_range', ←Array.length_toList]
theorem b8J{x y:Code}{T:List AV}{H:AHeap}{Q:j7→List AV→AHeap→Prop}
  (h:E6 P E w0 x T H fun ex T' H'=>match ex with| .normal=>E6 P E w0 y T' H' Q|e=>Q e T' H'):E6 P E w0 (.seq x y) T H Q:=by
 intro w ρ a R hR hf hT hk hp
 refine wp_seq (h w ρ a _ hR hf hT ?_ hp)
 intro ex T' H' a' w' hq hst
 cases ex with
 |normal=>
  obtain⟨ρ',g1,g2,g3,g4,g5⟩:=hst.fresh hf
  refine hq w' ρ' a' R g4 g2 g3 ?_ (by rw[g5];exact hp.trans g1)
  intro ex T2 H2 a2 w2 hq2 hst2
  rw[g5]at hst2
  exact hk _ _ _ _ _ hq2 (StA.trans g1 hst2)
 |exit id=>exact hk _ _ _ _ _ hq hst
 |ret=>exact hk _ _ _ _ _ hq hst
def c4r(c:AV)(x y:Prop):Prop:=match c with
 | .bool true=>x
 | .bool false=>y
 |_=>False
theorem b6x{c:Operand}{x y:Code}{T:List AV}{H:AHeap}{Q:j7→List AV→AHeap→Prop}
  (h:c4r (i4 T c) (E6 P E w0 x T H Q) (E6 P E w0 y T H Q)):E6 P E w0 (.cond c x y) T H Q:=by
 intro w ρ a R hR hf hT hk hp
 have hr:=a3B hT c
 unfold c4r at h
 split at h
 ·rename_i e;rw[e]at hr;simp only[rel]at hr
  exact wp_cond hr (h w ρ a R hR hf hT hk hp)
 ·rename_i e;rw[e]at hr;simp only[rel]at hr
  exact wp_cond hr (h w ρ a R hR hf hT hk hp)
 ·cases h
def c3e(id:Nat)(Q:j7→List AV→AHeap→Prop):j7→List AV→AHeap→Prop
 | .exit id',T,H=>if id'=id then Q .normal T H else Q (.exit id') T H
 |e,T,H=>Q e T H
theorem c2h{id:Nat}{x:Code}{T:List AV}{H:AHeap}{Q:j7→List AV→AHeap→Prop}(h:E6 P E w0 x T H (c3e id Q)):E6 P E w0 (.block id x) T H Q:=by
 intro w ρ a R hR hf hT hk hp
 refine wp_block (h w ρ a _ hR hf hT ?_ hp)
 intro ex T' H' a' w' hq hst
 cases ex with
 |normal=>exact hk _ _ _ _ _ hq hst
 |ret=>exact hk _ _ _ _ _ hq hst
 |exit id'=>
  simp only[c3e]at hq
  simp only[c8o,Exit.inBlock]
  split
  ·rename_i e;rw[if_pos e]at hq;exact hk .normal _ _ _ _ hq hst
  ·rename_i e;rw[if_neg e]at hq;exact hk (.exit id') _ _ _ _ hq hst
theorem c3o{c:Code}{Q:j7→List AV→AHeap→Prop}{I:Nat→List AV→AHeap→Prop}
  (step:∀n T H,I n T H→E6 P E w0 c T H fun ex T' H'=>match ex with| .normal=>∃m,m<n∧I m T' H'|e=>Q e T' H')
  {n:Nat} {T:List AV} {H:AHeap} (h:I n T H):E6 P E w0 (.loop c) T H Q:=by
 have main:∀(k n:Nat) (T:List AV) (H:AHeap),n<k→I n T H→∀(w:World) (ρ:u5) (a:Act) (R:Exit→Act→World→Prop),B6 E w0 H w ρ→M5 ρ H→m6 ρ T a.tmps.toList→
   (∀ex T' H' a' w',Q ex T' H'→StA E w0 H ρ a.defers T' H' a' w'→R (c8o ex) a' w')→b4y E w0 H ρ a.defers R→Code.rounds P c R k a w:=by
  intro k
  induction k with
  |zero=>intro n T H hn;omega
  |succ k ih=>
   intro n T H hn hI w ρ a R hR hf hT hk hp
   rw[rounds_succ]
   refine step n T H hI w ρ a _ hR hf hT ?_ hp
   intro ex T' H' a' w' hq hst
   cases ex with
   |normal=>
    obtain⟨m,hm,hI'⟩:=hq
    obtain⟨ρ',g1,g2,g3,g4,g5⟩:=hst.fresh hf
    refine ih m T' H' (by omega) hI' w' ρ' a' R g4 g2 g3 ?_ (by rw[g5];exact hp.trans g1)
    intro ex T2 H2 a2 w2 hq2 hst2
    rw[g5]at hst2
    exact hk _ _ _ _ _ hq2 (StA.trans g1 hst2)
   |exit id=>exact hk _ _ _ _ _ hq hst
   |ret=>exact hk _ _ _ _ _ hq hst
 intro w ρ a R hR hf hT hk hp
 exact wp_loop_rounds (n+1) (main (n+1) n T H (by omega) h w ρ a R hR hf hT hk hp)
def b4{α:Type}(x:Option α)(Q:α→Prop):Prop:=match x with
 |some v=>Q v
 |none=>False
def a1T(P:Program)(E:g8)(H:AHeap)(T:List AV):List ResultVar→(List AV→Prop)→Prop
 | [],K=>K []
 | .tmp t::l,K=>a1T P E H T l fun vs=>K (T.getD t s8::vs)
 | .cell a t::l,K=>match T.getD a s8 with
  | .ptr o i=>b4 (H4 P E H t o i) fun v=>a1T P E H T l fun vs=>K (v::vs)
  |_=>False
def b8x:List AV→AV
 | [v]=>v
 |vs=> .tup vs
theorem a6C{H:AHeap}{T:List AV}:∀ {l:List ResultVar} {K:List AV→Prop},a1T P E H T l K→∃vs,K vs∧l.mapM (fun
  | .tmp t=>some (T.getD t s8)
  | .cell a t=>match T.getD a s8 with
   | .ptr o i=>H4 P E H t o i
   |_=>none:ResultVar→Option AV)=some vs
 | [],K,h=>⟨[],h,rfl⟩
 | .tmp t::l,K,h=>by
  obtain⟨vs,h1,h2⟩:=a6C (l:=l) h
  exact⟨_,h1,by simp only[List.mapM_cons,h2];rfl⟩
 | .cell a t::l,K,h=>by
  simp only[a1T]at h
  split at h
  ·rename_i o i e
   unfold b4 at h
   split at h
   ·rename_i v hv
    obtain⟨vs,h1,h2⟩:=a6C (l:=l) h
    exact⟨_,h1,by simp only[List.mapM_cons,h2,e,hv];rfl⟩
   ·cases h
  ·cases h
theorem c3T{H:AHeap}{T:List AV}{fn:Func}{K:List AV→Prop}(h:a1T P E H T fn.results.toList K):∃vs,K vs∧b1z P E H fn T=some (b8x vs):=by
 obtain⟨vs,h1,h2⟩:=a6C h
 refine⟨vs,h1, ?_⟩
 unfold b1z
 erw [h2]
 simp only[Option.bind_eq_bind,Option.bind_some]
 unfold b8x
 split<;>rename_i h3<;>split<;>rename_i h4<;>simp_all
def d0i(P:Program)(E:g8)(fn:Func)(Q:AV→AHeap→Prop):j7→List AV→AHeap→Prop
 | .exit _,_,_=>False
 |_,T,H=>a1T P E H T fn.results.toList fun vs=>Q (b8x vs) H
theorem c2w{f:FuncId}{fn:Func}{c:Code}(hfn:P.funcs[f]? =some fn)(hb:fn.body=some c){args:List AV}{H:AHeap}{Q:AV→AHeap→Prop}
  (h:E6 P E w0 c (args++List.replicate (fn.ntmps - args.length) s8) H (d0i P E fn Q)):FnW P E w0 f args H Q:=by
 intro w ρ vargs R hf hr
 refine calls_of_wp hfn hb ?_
 refine h w ρ { tmps:=vargs++Array.replicate (fn.ntmps - vargs.size) undef,defers:=[] } _ R hf ?_ ?_ ?_
 ·have hl:=u7 hr
  simp only[Array.length_toList]at hl
  rw[Array.toList_append,Array.toList_replicate, ←hl]
  refine O6 hr ?_
  generalize fn.ntmps - args.length=m
  induction m with
  |zero=>exact m7.2 rfl
  |succ m ihm=>exact j3.2 ⟨a8H,ihm⟩
 ·intro ex T' H' a' w' hq ⟨ρ',g1,g2,g3,g4⟩
  have main:(ex= .normal∨ex= .ret)→bodyPost P fn (b5t E w0 ρ H Q) (c8o ex) a' w':=by
   intro hex
   have hq':a1T P E H' T' fn.results.toList fun vs=>Q (b8x vs) H':=by rcases hex with rfl|rfl<;>exact hq
   obtain⟨vs,h1,h2⟩:=c3T hq'
   obtain⟨u,k1,k2⟩:=b6M (P:=P) g3 h2 g2
   have:bodyPost P fn (b5t E w0 ρ H Q) .normal a' w':=
    ⟨g4,u,k1,ρ',_,H',h1,g1,k2,g3⟩
   rcases hex with rfl|rfl
   ·exact this
   ·exact this
  cases ex with
  |normal=>exact main (.inl rfl)
  |ret=>exact main (.inr rfl)
  |exit id=>exact hq.elim
 ·exact fun u v ρ' H' a' w' h1 h2 h3 h4 h5=>⟨h5,u,ρ',v,H',rfl,h1,h2,h3,h4⟩
theorem c0r{f:FuncId}{args:List AV}{Q:AV→AHeap→Prop}{W:World}(h:FnW P E (c6B W) f args AHeap.empty Q){vargs:Array Value}
  (hE:∀b cs,E b=some cs→b<W.heap.size∧∃arr el fr,W.heap[b]? =some (.cells arr el fr)∧m6 (fun _=>none) cs arr.toList) (hargs:m6 (fun _=>none) args vargs.toList):
  Calls P f vargs W fun e w=>∃u ρ v H',e= .returned u∧Q v H'∧rel ρ v u∧W.heap.size≤w.heap.size∧b4p W w:=by
 refine Calls.mono (h W (fun _=>none) vargs (B6.start E W hE) (fun _ _=>rfl) hargs) ?_
 intro e w he
 cases e with
 |returned u=>
  obtain⟨ρ,v,H',g1,_,g3,g4⟩:=he
  exact⟨u,ρ,v,H',rfl,g1,g3,g4.size,g4.side.1,g4.side.2,g4.old⟩
 |panicked c=>obtain⟨_,_,_,_,_,h,_⟩:=he;exact h.elim
 |outgrown=>exact he.elim
theorem c0M{f:FuncId}{args:List AV}{W:World}(h:FnW P E (c6B W) f args AHeap.empty fun v _=>v= .bool true){vargs:Array Value}
  (hE:∀b cs,E b=some cs→b<W.heap.size∧∃arr el fr,W.heap[b]? =some (.cells arr el fr)∧m6 (fun _=>none) cs arr.toList) (hargs:m6 (fun _=>none) args vargs.toList):
  Calls P f vargs W fun e w=>e= .returned (.bool true)∧b4p W w:=by
 refine Calls.mono (c0r h hE hargs) ?_
 rintro e w ⟨u,ρ,v,H',rfl,rfl,hr,_,hk⟩
 simp only[rel]at hr
 exact⟨by rw[hr],hk⟩
end
end Go.Am
end
