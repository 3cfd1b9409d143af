/-
  TransferRisesSaid: part Qah of its proof.
-/
import Derived.Test.YtdkidgkiplcggaaGreatQag
set_option linter.unusedVariables false
set_option linter.unusedSimpArgs false
set_option maxRecDepth 100000
section
namespace Go.Am
structure a8D where
 w:World
 X:AV→AHeap→Prop
instance:Coe a8D World:=⟨a8D.w⟩
def d4O(w:World):a8D:=⟨w,fun _ _=>False⟩
section
variable(P:Program)(E:j2)(w0:a8D)
def a0O(ρ:B2)(H:AHeap):Prop:=∀k,H.next≤k→ρ k=none
def Nx(ρ ρ':B2)(H H':AHeap):Prop:=Ext ρ ρ'∧H.next≤H'.next∧∀k,¬(H.next≤k∧k<H'.next)→ρ' k=ρ k
def d1P(u:Value):List PanicEntry:=[{ v:=u,recovered:=false }]
def c6b(ρ:B2)(H:AHeap)(Q:AV→AHeap→Prop):Ending→World→Prop
 | .returned u,w'=>∃ρ' v H',Q v H'∧Nx ρ ρ' H H'∧rel ρ' v u∧G3 E w0 H' w' ρ'
 | .panicked c,w'=>∃u ρ' v H',c=d1P u∧w0.X v H'∧Nx ρ ρ' H H'∧rel ρ' v u∧G3 E w0 H' w' ρ'
 | .outgrown,_=>False
def FnW(f:FuncId)(args:List AV)(H:AHeap)(Q:AV→AHeap→Prop):Prop:=
 ∀(w:World) (ρ:B2) (vargs:Array Value),G3 E w0 H w ρ→a0O ρ H→s8 ρ args vargs.toList→Calls P f vargs w (c6b E w0 ρ H Q)
def d2z(T:List AV)(H:AHeap)(o:Oper):Prop:=match o.op with
 | .panic x=>(∃t v,l9 T x= .ifc t v)∧w0.X (l9 T x) H
 |_=>False
def b1C(H:AHeap)(t:TypeId)(x:AV)(Q:AV→AHeap→Prop):Prop:=match P.underlying t,x with
 |some (.map _ _), .map k=>match H.get k with
  |some (.map _ clock)=>Q (.ptr (.new H.next) 0) (H.new (.iter k clock [] clock))
  |_=>False
 |_,_=>False
def c8U(H:AHeap)(it:AV)(Q:AV→AHeap→Prop):Prop:=match it with
 | .ptr (.new j) 0=>match H.get j with
  |some (.iter k since seen last)=>match H.get k with
   |some (.map es clock)=>(∀e∈es,e.2.2<since)∧(seen=[]∨es=[]∨∃e∈es,e.2.2<last)∧
     (∀e∈es,e.2.2 ∉ seen→Q (.tup [.bool true,e.1,e.2.1]) (H.set j (.iter k since (seen++[e.2.2]) clock)))∧((∀e∈es,e.2.2∈seen)→Q (.tup [.bool false]) H)
   |_=>False
  |_=>False
 |_=>False
def b3l(H:AHeap)(it:AV)(Q:AV→AHeap→Prop):Prop:=match it with
 | .ptr (.new j) 0=>match H.get j with
  |some (.iter k _ seen last)=>match H.get k with
   |some (.map es clock)=>clock=last∧(es.map (·.2.2)).Nodup∧∃e∈es,seen.getLast? =some e.2.2∧Q (.tup [e.1,e.2.1]) H
   |_=>False
  |_=>False
 |_=>False
def c5L(s:Bool)(H:AHeap)(it:AV)(Q:AV→AHeap→Prop):Prop:=match s with
 |true=>False
 |false=>c8U H it Q
def b0W(T:List AV)(H:AHeap)(o:Oper)(Q:AV→AHeap→Prop):Prop:=match o.op with
 | .range t x=>b1C P H t (l9 T x) Q
 | .next it s=>c5L s H (l9 T it) Q
 | .entry it=>b3l H (l9 T it) Q
 |_=>False
def c4I(T:List AV)(H:AHeap)(o:Oper)(r:Option a1v)(Q:AV→AHeap→Prop):Prop:=match r with
 |some (.val v H')=>Q v H'
 |some (.call f args H')=>FnW P E w0 f args H' Q
 |none=>d2z w0 T H o∨b0W P T H o Q
def d7l(g:AV)(want:Bool):Option Bool:=match g with
 | .bool b=>some (b==want)
 | .opq _=>none
 |_=>some false
def a9S(r:Option Bool)(s:(AV→AHeap→Prop)→Prop)(H:AHeap)(Q:AV→AHeap→Prop):Prop:=match r with
 |some true=>s Q
 |some false=>Q C1 H
 |none=>False
def a5g(ops:Array Oper)(T:List AV)(H:AHeap)(o:Oper)(Q:AV→AHeap→Prop):Prop:=
 a9S (a1e ops T o) (c4I P E w0 T H o (opA P E T H o)) H Q
def d5Q(ops:Array Oper):List Oper→List AV→AHeap→(List AV→AHeap→Prop)→Prop
 | [],T,H,Q=>Q T H
 |o::l,T,H,Q=>a5g P E w0 ops T H o fun v H'=>d5Q ops l (a3c T o.dst v) H' Q
def StA(H:AHeap)(ρ:B2)(ds:List Deferred)(T':List AV)(H':AHeap)(a':Act)(w':World):Prop:=
 ∃ρ',Nx ρ ρ' H H'∧s8 ρ' T' a'.tmps.toList∧G3 E w0 H' w' ρ'∧a'.defers=ds
def c1S(H:AHeap)(ρ:B2)(ds:List Deferred)(R:Exit→Act→World→Prop):Prop:=
 ∀u v ρ' H' a' w',w0.X v H'→Nx ρ ρ' H H'→rel ρ' v u→G3 E w0 H' w' ρ'→a'.defers=ds→R (.panic (d1P u)) a' w'
def M1(c:Code)(T:List AV)(H:AHeap)(Q:o8→List AV→AHeap→Prop):Prop:=
 ∀(w:World) (ρ:B2) (a:Act) (R:Exit→Act→World→Prop),G3 E w0 H w ρ→a0O ρ H→s8 ρ T a.tmps.toList→
  (∀ex T' H' a' w',Q ex T' H'→StA E w0 H ρ a.defers T' H' a' w'→R (d5k ex) a' w')→c1S E w0 H ρ a.defers R→c.wp P R a w
end
section
variable{P:Program}{E:j2}{w0:a8D}
theorem Nx.refl(ρ:B2)(H:AHeap):Nx ρ ρ H H:=⟨Ext.refl _,Nat.le_refl _,fun _ _=>rfl⟩
theorem Nx.trans{ρ ρ1 ρ2:B2}{H H1 H2:AHeap}(h:Nx ρ ρ1 H H1)(h':Nx ρ1 ρ2 H1 H2):Nx ρ ρ2 H H2:=by
 obtain⟨a,b,c⟩:=h
 obtain⟨a',b',c'⟩:=h'
 exact⟨a.trans a',by omega,fun k hk=>by rw[c' k (by omega),c k (by omega)]⟩
theorem a0O.step{ρ ρ':B2}{H H':AHeap}(h:a0O ρ H)(h':Nx ρ ρ' H H'):a0O ρ' H':=fun k hk=>by
 obtain⟨_,b,c⟩:=h'
 rw[c k (by omega),h k (by omega)]
theorem a0O.fresh{ρ:B2}{H H':AHeap}(h:a0O ρ H):a3P ρ H H':=fun k hk _=>h k hk
theorem StA.trans{H0 H1 H2:AHeap}{ρ0 ρ1:B2}{ds:List Deferred}{T:List AV}{a:Act}{w:World}(h1:Nx ρ0 ρ1 H0 H1)(h:StA E w0 H1 ρ1 ds T H2 a w):StA E w0 H0 ρ0 ds T H2 a w:=by
 obtain⟨ρ,g1,g2,g3,g4⟩:=h
 exact⟨ρ,h1.trans g1,g2,g3,g4⟩
theorem StA.fresh{H0 H:AHeap}{ρ0:B2}{ds:List Deferred}{T:List AV}{a:Act}{w:World}(h:StA E w0 H0 ρ0 ds T H a w)(hf:a0O ρ0 H0):
  ∃ρ,Nx ρ0 ρ H0 H∧a0O ρ H∧s8 ρ T a.tmps.toList∧G3 E w0 H w ρ∧a.defers=ds:=by
 obtain⟨ρ,g1,g2,g3,g4⟩:=h
 exact⟨ρ,g1,hf.step g1,g2,g3,g4⟩
theorem c1S.trans{H0 H:AHeap}{ρ0 ρ:B2}{ds:List Deferred}{R:Exit→Act→World→Prop}(h:c1S E w0 H0 ρ0 ds R)(h1:Nx ρ0 ρ H0 H):c1S E w0 H ρ ds R:=fun u v ρ' H' a' w' hx hn=>h u v ρ' H' a' w' hx (h1.trans hn)
theorem c6b.mono{ρ:B2}{H:AHeap}{Q Q':AV→AHeap→Prop}(hq:∀v H',Q v H'→Q' v H'){e:Ending}{w:World}(h:c6b E w0 ρ H Q e w):c6b E w0 ρ H Q' e w:=by
 cases e with
 |returned u=>
  obtain⟨ρ',v,H',h2,h3⟩:=h
  exact⟨ρ',v,H',hq _ _ h2,h3⟩
 |panicked c=>exact h
 |outgrown=>exact h
theorem FnW.mono{f:FuncId}{args:List AV}{H:AHeap}{Q Q':AV→AHeap→Prop}(h:FnW P E w0 f args H Q)(hq:∀v H',Q v H'→Q' v H'):FnW P E w0 f args H Q':=
 fun w ρ vargs R hf hr=>Calls.mono (h w ρ vargs R hf hr) fun e w' he=>he.mono hq
theorem M1.mono{c:Code}{T:List AV}{H:AHeap}{Q Q':o8→List AV→AHeap→Prop}(h:M1 P E w0 c T H Q)(hq:∀ex T' H',Q ex T' H'→Q' ex T' H'):M1 P E w0 c T H Q':=
 fun w ρ a R hR hf hT hk hp=>h w ρ a R hR hf hT (fun ex T' H' a' w' hQ=>hk ex T' H' a' w' (hq _ _ _ hQ)) hp
theorem b9x{H:AHeap}{t:TypeId}{x:AV}{Q Q':AV→AHeap→Prop}(hq:∀v H',Q v H'→Q' v H')(h:b1C P H t x Q):b1C P H t x Q':=by
 unfold b1C at*
 split at h
 ·split at h
  ·exact hq _ _ h
  ·exact h.elim
 ·exact h.elim
theorem c1Z{H:AHeap}{s:Bool}{x:AV}{Q Q':AV→AHeap→Prop}(hq:∀v H',Q v H'→Q' v H')(h:c5L s H x Q):c5L s H x Q':=by
 cases s with
 |true=>exact h.elim
 |false=>
  unfold c5L c8U at*
  simp only at h ⊢
  split at h
  ·split at h
   ·split at h
    ·obtain⟨a,b,c,d⟩:=h
     exact⟨a,b,fun e he hs=>hq _ _ (c e he hs),fun hs=>hq _ _ (d hs)⟩
    ·exact h.elim
   ·exact h.elim
  ·exact h.elim
theorem b9I{H:AHeap}{x:AV}{Q Q':AV→AHeap→Prop}(hq:∀v H',Q v H'→Q' v H')(h:b3l H x Q):b3l H x Q':=by
 unfold b3l at*
 split at h
 ·split at h
  ·split at h
   ·obtain⟨a,b,e,c,d,f⟩:=h
    exact⟨a,b,e,c,d,hq _ _ f⟩
   ·exact h.elim
  ·exact h.elim
 ·exact h.elim
theorem c9P{T:List AV}{H:AHeap}{o:Oper}{Q Q':AV→AHeap→Prop}(h:b0W P T H o Q)(hq:∀v H',Q v H'→Q' v H'):b0W P T H o Q':=by
 unfold b0W at*
 split at h
 ·exact b9x hq h
 ·exact c1Z hq h
 ·exact b9I hq h
 ·exact h.elim
theorem c3N{ρ:B2}:∀ {es:List (AV×AV×Nat)} {l:List MapEntry},a2k ρ es l→(es.map (·.2.2)=l.map (·.born))∧(∀e∈es,∃x∈l,rel ρ e.1 x.key∧rel ρ e.2.1 x.val∧x.born=e.2.2)∧∀x∈l,∃e∈es,rel ρ e.1 x.key∧rel ρ e.2.1 x.val∧x.born=e.2.2
 | [],l,h=>by
  simp only[a2k]at h
  subst h
  exact⟨rfl,fun e h=>(by cases h),fun x h=>(by cases h)⟩
 |(k,v,n)::es,l,h=>by
  simp only[a2k]at h
  obtain⟨x,r,rfl,h1,h2,h3,h4⟩:=h
  obtain⟨g1,g2,g3⟩:=c3N h4
  refine⟨by simp[g1,h3],fun e he=> ?_,fun y hy=> ?_⟩
  ·rcases List.mem_cons.1 he with rfl|he
   ·exact⟨x,List.mem_cons_self,h1,h2,h3⟩
   ·obtain⟨y,a,b⟩:=g2 e he
    exact⟨y,List.mem_cons_of_mem _ a,b⟩
  ·rcases List.mem_cons.1 hy with rfl|hy
   ·exact⟨_,List.mem_cons_self,h1,h2,h3⟩
   ·obtain⟨e,a,b⟩:=g3 y hy
    exact⟨e,List.mem_cons_of_mem _ a,b⟩
theorem c8B{T:List AV}{H:AHeap}{o:Oper}{Q:AV→AHeap→Prop}(h:b0W P T H o Q){w:World}{ρ:B2}{w0:World}(R:G3 E w0 H w ρ){f:Operand→Value}(hr:∀x,rel ρ (l9 T x) (f x))(hf:a0O ρ H):
  ∃v H' ρ' vv w',Q v H'∧Nx ρ ρ' H H'∧rel ρ' v vv∧G3 E w0 H' w' ρ'∧(execOp f o).run P w= .ok (.value vv) w':=by
 have up:∀ {s:Sem Value} {vv:Value} {w':World},s.run P w= .ok vv w'→((do pure (Next.value (←s)):Sem Next).run P w)= .ok (.value vv) w':=fun h=>by simp only[Sem.run_bind,h,Result.andThen_ok,Sem.run_pure]
 have spot:∀ {it:Operand} {j k since last:Nat} {seen:List Nat},l9 T it= .ptr (.new j) 0→H.get j=some (.iter k since seen last)→∃l lm,ρ j=some l∧ρ k=some lm∧f it= .pointer (some ⟨l.blk,0,none⟩)∧w.heap[l.blk]? =some (.mapIter (some lm.blk) since seen.toArray last):=fun{it} _ _ _ _ _ e hj=>by
  have hx:=hr it
  rw[e]at hx
  obtain⟨l,hl,_,hd0,lm,hm,hb⟩:=R.objs _ _ hj
  simp only[rel]at hx
  obtain⟨b,d,h4,h5⟩:=hx
  simp only[J1,hl,Option.map_some,Option.some.injEq,Prod.mk.injEq]at h4
  obtain⟨rfl,rfl⟩:=h4
  rw[hd0]at h5
  exact⟨l,lm,hl,hm,h5,hb⟩
 obtain⟨dst,op,ty,pos,after,guard⟩:=o
 unfold b0W at h
 simp only at h
 split at h
 ·rename_i t x
  unfold b1C at h
  split at h
  ·rename_i ht e
   have hx:=hr x
   rw[e]at hx
   split at h
   ·rename_i k es clock hk
    obtain⟨l,mes,h1,h2,h3⟩:=R.mapOf hk
    simp only[rel]at hx
    obtain⟨l',h4,h5⟩:=hx
    rw[h1]at h4;cases h4
    have hn:=hf H.next (Nat.le_refl _)
    refine⟨_,_,upd ρ H.next ⟨w.heap.size,0,0⟩, .pointer (some ⟨w.heap.size,0,none⟩),_,h,⟨a4t _ hn,by simp,fun j hj=> ?_⟩, ?_,R.newIter hn h1, ?_⟩
    ·rw[C9]
     rintro rfl
     exact hj ⟨Nat.le_refl _,by simp⟩
    ·simp only[rel]
     exact⟨w.heap.size,0,by simp[J1,H3],rfl⟩
    ·refine up (s:=Instr.range t (f x)) ?_
     rw[h5]
     exact c2u ht h2
   ·exact h.elim
  ·exact h.elim
 ·rename_i it s
  cases s with
  |true=>exact h.elim
  |false=>
  unfold c5L c8U at h
  simp only at h
  split at h
  ·rename_i j e
   split at h
   ·rename_i k since seen last hj
    split at h
    ·rename_i es clock hk
     obtain⟨a,b,c,d⟩:=h
     obtain⟨l,lm,hl,hm,hfi,hb⟩:=spot e hj
     obtain⟨l2,mes,h1,h2,h3⟩:=R.mapOf hk
     rw[hm]at h1;cases h1
     obtain⟨g1,g2,g3⟩:=c3N h3
     have hold:∀x∈mes.toList,x.born<since:=fun x hx=>by
      obtain⟨e',he',_,_,hb'⟩:=g3 x hx
      rw[hb'];exact a e' he'
     have htest:(!seen.toArray.isEmpty&& !mes.isEmpty&&mes.all fun x=>decide (x.born≥last))=false:=by
      rcases b with rfl|rfl|⟨e',he',hlt⟩
      ·simp
      ·simp only[a2k]at h3
       have:mes= #[]:=by cases mes;simp_all
       subst this
       simp
      ·obtain⟨x,hx,_,_,hb'⟩:=g2 e' he'
       have:(mes.all fun x=>decide (x.born≥last))=false:=by
        rw[Array.all_eq_false]
        obtain⟨i,hi,hxi⟩:=Array.getElem_of_mem (Array.mem_toList_iff.1 hx)
        exact⟨i,hi,by rw[hxi];simp;omega⟩
       rw[this,Bool.and_false]
     rcases c4p (P:=P) (ty:=ty) hb h2 hold htest with ⟨q1,q2⟩|⟨x,q1,q2,w1,q3,q4⟩
     ·refine⟨_,_,ρ, .tuple #[.bool false],w,d fun e' he'=> ?_,Nx.refl _ _, ?_,R, ?_⟩
      ·obtain⟨x,hx,_,_,hb'⟩:=g2 e' he'
       rw[←hb'];simpa using q1 x hx
      ·simp only[rel,s8]
       exact⟨_,rfl,_,_,rfl,rfl,rfl⟩
      ·refine up (s:=Instr.next (f it) false ty) ?_
       rw[hfi];exact q2
     ·obtain⟨e',he',r1,r2,r3⟩:=g3 x q1
      have hs:seen.toArray.push x.born=(seen++[e'.2.2]).toArray:=by rw[r3];simp
      refine⟨_,_,ρ, .tuple #[.bool true,x.key,x.val],_,c e' he' (by rw[←r3];simpa using q2),⟨Ext.refl _,by simp,fun _ _=>rfl⟩, ?_,(R.like q3).setIter hj hl hm, ?_⟩
      ·simp only[rel,s8]
       exact⟨_,rfl,_,_,rfl,rfl,_,_,rfl,r1,_,_,rfl,r2,rfl⟩
      ·refine up (s:=Instr.next (f it) false ty) ?_
       rw[hfi,q4,hs]
    ·exact h.elim
   ·exact h.elim
  ·exact h.elim
 ·rename_i it
  unfold b3l at h
  split at h
  ·rename_i j e
   split at h
   ·rename_i k since seen last hj
    split at h
    ·rename_i es clock hk
     obtain⟨rfl,hn,e',he',hs,hq⟩:=h
     obtain⟨l,lm,hl,hm,hfi,hb⟩:=spot e hj
     obtain⟨l2,mes,h1,h2,h3⟩:=R.mapOf hk
     rw[hm]at h1;cases h1
     obtain⟨g1,g2,g3⟩:=c3N h3
     obtain⟨x,hx,r1,r2,r3⟩:=g2 e' he'
     refine⟨_,_,ρ, .tuple #[x.key,x.val],w,hq,Nx.refl _ _, ?_,R, ?_⟩
     ·simp only[rel,s8]
      exact⟨_,rfl,_,_,rfl,r1,_,_,rfl,r2,rfl⟩
     ·refine up (s:=Instr.entry (f it)) ?_
      rw[hfi]
      exact c2y hb (by rw[r3,List.back?_toArray];exact hs) h2 hx (by rw[←g1];exact hn)
    ·exact h.elim
   ·exact h.elim
  ·exact h.elim
 ·exact h.elim
theorem d3n{T:List AV}{H:AHeap}{o:Oper}{r:Option a1v}{Q Q':AV→AHeap→Prop}(h:c4I P E w0 T H o r Q)(hq:∀v H',Q v H'→Q' v H'):c4I P E w0 T H o r Q':=by
 unfold c4I at*
 split
 ·exact hq _ _ h
 ·exact FnW.mono h hq
 ·exact h.imp id fun h=>c9P h hq
theorem a4o{ops:Array Oper}{T:List AV}{H:AHeap}{o:Oper}{Q Q':AV→AHeap→Prop}(h:a5g P E w0 ops T H o Q)(hq:∀v H',Q v H'→Q' v H'):a5g P E w0 ops T H o Q':=by
 unfold a5g a9S at*
 split<;>rename_i e<;>rw[e]at h
 ·exact d3n h hq
 ·exact hq _ _ h
 ·exact h
theorem b3f{ops:Array Oper}{T:List AV}{H:AHeap}{o:Oper}{Q:AV→AHeap→Prop}(h:a5g P E w0 ops T H o Q){i:Nat}(ho:ops[i]? =some o)
  {w:World} {ρ:B2} (R:G3 E w0 H w ρ) {a:Act} (hT:s8 ρ T a.tmps.toList) (hf:a0O ρ H) {K:Act→World→Prop} {S:Exit→Act→World→Prop}
  (hK:∀v H' ρ' vv w',Q v H'→Nx ρ ρ' H H'→rel ρ' v vv→G3 E w0 H' w' ρ'→K (a.put o.dst vv) w') (hP:c1S E w0 H ρ a.defers S):wpOp P ops S i K a w:=by
 unfold wpOp
 rw[ho]
 simp only
 unfold a5g a9S at h
 split at h
 ·rename_i hw
  rw[c3K hw hT,if_pos rfl]
  left
  unfold Oper.wp
  unfold c4I at h
  split at h
  ·rename_i v1 H1 h1
   obtain⟨nx,vv,w',ρ',g1,g2,g3,g4,g5,g6,g7⟩:=c5A R h1 (b2M hT) hf.fresh
   rw[g1]
   rcases g2 with rfl|⟨rfl,rfl⟩
   ·exact hK _ _ ρ' vv w' h ⟨g3,g7,g4⟩ g5 g6
   ·exact hK _ _ ρ' undef w' h ⟨g3,g7,g4⟩ g5 g6
  ·rename_i f args H1 h1
   obtain⟨rfl,vargs,g1,g2⟩:=c5A R h1 (b2M hT)
   rw[g1]
   refine Calls.mono (h w ρ vargs R hf g2) ?_
   intro e w' he
   cases e with
   |returned u=>
    obtain⟨ρ',v,H',k1,k2,k3,k4⟩:=he
    exact hK _ _ ρ' u w' k1 k2 k3 k4
   |panicked c=>
    obtain⟨u,ρ',v,H',rfl,k1,k2,k3,k4⟩:=he
    exact hP u v ρ' H' a w' k1 k2 k3 k4 rfl
   |outgrown=>exact he.elim
  ·rcases Or.symm h with h|h
   ·obtain⟨v,H',ρ',vv,w',g1,g2,g3,g4,g5⟩:=c8B h R (b2M hT) hf
    rw[g5]
    exact hK _ _ ρ' vv w' g1 g2 g3 g4
   unfold d2z at h
   split at h
   ·rename_i x hx
    obtain⟨⟨t,v,e⟩,hX⟩:=h
    have hr:=b2M hT x
    rw[e]at hr hX
    have hr':=hr
    simp only[rel]at hr
    obtain⟨y,hy,_⟩:=hr
    have hrun:(execOp a.eval o).run P w= .halt (.panic (.iface t y)) w:=by
     obtain⟨dst,op,ty,pos,after,guard⟩:=o
     simp only at hx
     subst hx
     simp only[execOp,hy]
     rfl
    rw[hrun,Oper.upon_panic]
    rw[hy]at hr'
    exact hP _ _ ρ H a w hX (Nx.refl _ _) hr' R rfl
   ·cases h
 ·rename_i hw
  rw[c3K hw hT,if_neg Bool.false_ne_true]
  exact hK _ _ ρ undef w h (Nx.refl _ _) b3u R
 ·cases h
theorem c1A{ops:Array Oper}{S:Exit→Act→World→Prop}:∀(l:List Oper) (i:Nat) (T:List AV) (H:AHeap) (Q:List AV→AHeap→Prop),d5Q P E w0 ops l T H Q→ops.toList.drop i=l→
  ∀(w:World) (ρ:B2) (a:Act),G3 E w0 H w ρ→s8 ρ T a.tmps.toList→a0O ρ H→(∀T' H' a' w',Q T' H'→StA E w0 H ρ a.defers T' H' a' w'→S .normal a' w')→c1S E w0 H ρ a.defers S→
   wpOps P ops S (List.range' i l.length) a w
 | [],i,T,H,Q,h,_,w,ρ,a,R,hT,hf,hQ,hP=>by
  simp only[List.length_nil,List.range'_zero,wpOps]
  exact hQ T H a w h ⟨ρ,Nx.refl _ _,hT,R,rfl⟩
 |o::l,i,T,H,Q,h,hl,w,ρ,a,R,hT,hf,hQ,hP=>by
  have hdr:ops.toList.drop (i+1)=l:=by
   have:=congrArg List.tail hl
   rw[List.tail_drop]at this
   exact this
  have ho:ops[i]? =some o:=by
   have:(ops.toList.drop i)[0]? =some o:=by rw[hl];rfl
   rw[List.getElem?_drop]at this
   simpa using this
  have hlen:(List.range' i (o::l).length)=i::List.range' (i+1) l.length:=by
   simp[List.range'_succ]
  rw[hlen,wpOps_cons]
  refine b3f h ho R hT hf ?_ hP
  intro v H1 ρ' vv w' g0 g1 g2 g3
  refine c1A l (i+1) _ _ _ g0 hdr w' ρ' _ g3 (c7n (Y4 g1.1 _ _ hT) g2) (hf.step g1) ?_ (by rw[a9Z];exact hP.trans g1)
  intro T' H' a' w'' hq hst
  rw[a9Z]at hst
  exact hQ T' H' a' w'' hq (StA.trans g1 hst)
theorem d0S{T:List AV}{H:AHeap}{Q:o8→List AV→AHeap→Prop}(h:Q .normal T H):M1 P E w0 .skip T H Q:=
 fun w ρ a R hR hf hT hk _=>wp_skip (hk _ _ _ _ _ h ⟨ρ,Nx.refl _ _,hT,hR,rfl⟩)
theorem c9x{l:Nat}{T:List AV}{H:AHeap}{Q:o8→List AV→AHeap→Prop}(h:Q .normal T H):M1 P E w0 (.label l) T H Q:=
 fun w ρ a R hR hf hT hk _=>wp_label (hk _ _ _ _ _ h ⟨ρ,Nx.refl _ _,hT,hR,rfl⟩)
theorem d2H{T:List AV}{H:AHeap}{Q:o8→List AV→AHeap→Prop}(h:Q .ret T H):M1 P E w0 .ret T H Q:=
 fun w ρ a R hR hf hT hk _=>wp_ret (hk _ _ _ _ _ h ⟨ρ,Nx.refl _ _,hT,hR,rfl⟩)
theorem d0P{id:Nat}{T:List AV}{H:AHeap}{Q:o8→List AV→AHeap→Prop}(h:Q (.exit id) T H):M1 P E w0 (.exit id) T H Q:=
 fun w ρ a R hR hf hT hk _=>wp_exit (hk _ _ _ _ _ h ⟨ρ,Nx.refl _ _,hT,hR,rfl⟩)
theorem c7k{id:Nat}{ops:Array Oper}{T:List AV}{H:AHeap}{Q:o8→List AV→AHeap→Prop}(h:d5Q P E w0 ops ops.toList T H (Q .normal)):M1 P E w0 (.region id ops false) T H Q:=by
 intro w ρ a R hR hf hT hk hp
 refine wp_region ?_
 have:=c1A (S:=R) ops.toList 0 T H _ h rfl w ρ a hR hT hf (fun T' H' a' w' hq hst=>hk _ _ _ _ _ hq hst) hp
 rwa [List.range_eq_range', ←Array.length_toList]
theorem d2P{x y:Code}{T:List AV}{H:AHeap}{Q:o8→List AV→AHeap→Prop}
  (h:M1 P E w0 x T H fun ex T' H'=>match ex with| .normal=>M1 P E w0 y T' H' Q|e=>Q e T' H'):M1 P E w0 (.seq x y) T H Q:=by
 intro w ρ a R hR hf hT hk hp
 refine wp_seq (h w ρ a _ hR hf hT ?_ hp)
 intro ex T' H' a' w' hq hst
 cases ex with
 |normal=>
  obtain⟨ρ',g1,g2,g3,g4,g5⟩:=hst.fresh hf
  refine hq w' ρ' a' R g4 g2 g3 ?_ (by rw[g5];exact hp.trans g1)
  intro ex T2 H2 a2 w2 hq2 hst2
  rw[g5]at hst2
  exact hk _ _ _ _ _ hq2 (StA.trans g1 hst2)
 |exit id=>exact hk _ _ _ _ _ hq hst
 |ret=>exact hk _ _ _ _ _ hq hst
def c9m(c:AV)(x y:Prop):Prop:=match c with
 | .bool true=>x
 | .bool false=>y
 |_=>False
theorem c3x{c:Operand}{x y:Code}{T:List AV}{H:AHeap}{Q:o8→List AV→AHeap→Prop}
  (h:c9m (l9 T c) (M1 P E w0 x T H Q) (M1 P E w0 y T H Q)):M1 P E w0 (.cond c x y) T H Q:=by
 intro w ρ a R hR hf hT hk hp
 have hr:=b2M hT c
 unfold c9m at h
 split at h
 ·rename_i e;rw[e]at hr;simp only[rel]at hr
  exact wp_cond hr (h w ρ a R hR hf hT hk hp)
 ·rename_i e;rw[e]at hr;simp only[rel]at hr
  exact wp_cond hr (h w ρ a R hR hf hT hk hp)
 ·cases h
def d0V(id:Nat)(Q:o8→List AV→AHeap→Prop):o8→List AV→AHeap→Prop
 | .exit id',T,H=>if id'=id then Q .normal T H else Q (.exit id') T H
 |e,T,H=>Q e T H
theorem c8H{id:Nat}{x:Code}{T:List AV}{H:AHeap}{Q:o8→List AV→AHeap→Prop}(h:M1 P E w0 x T H (d0V id Q)):M1 P E w0 (.block id x) T H Q:=by
 intro w ρ a R hR hf hT hk hp
 refine wp_block (h w ρ a _ hR hf hT ?_ hp)
 intro ex T' H' a' w' hq hst
 cases ex with
 |normal=>exact hk _ _ _ _ _ hq hst
 |ret=>exact hk _ _ _ _ _ hq hst
 |exit id'=>
  simp only[d0V]at hq
  simp only[d5k,Exit.inBlock]
  split
  ·rename_i e;rw[if_pos e]at hq;exact hk .normal _ _ _ _ hq hst
  ·rename_i e;rw[if_neg e]at hq;exact hk (.exit id') _ _ _ _ hq hst
theorem d0C{c:Code}{Q:o8→List AV→AHeap→Prop}{I:Nat→List AV→AHeap→Prop}
  (step:∀n T H,I n T H→M1 P E w0 c T H fun ex T' H'=>match ex with| .normal=>∃m,m<n∧I m T' H'|e=>Q e T' H')
  {n:Nat} {T:List AV} {H:AHeap} (h:I n T H):M1 P E w0 (.loop c) T H Q:=by
 have main:∀(k n:Nat) (T:List AV) (H:AHeap),n<k→I n T H→∀(w:World) (ρ:B2) (a:Act) (R:Exit→Act→World→Prop),G3 E w0 H w ρ→a0O ρ H→s8 ρ T a.tmps.toList→
   (∀ex T' H' a' w',Q ex T' H'→StA E w0 H ρ a.defers T' H' a' w'→R (d5k ex) a' w')→c1S E w0 H ρ a.defers R→Code.rounds P c R k a w:=by
  intro k
  induction k with
  |zero=>intro n T H hn;omega
  |succ k ih=>
   intro n T H hn hI w ρ a R hR hf hT hk hp
   rw[rounds_succ]
   refine step n T H hI w ρ a _ hR hf hT ?_ hp
   intro ex T' H' a' w' hq hst
   cases ex with
   |normal=>
    obtain⟨m,hm,hI'⟩:=hq
    obtain⟨ρ',g1,g2,g3,g4,g5⟩:=hst.fresh hf
    refine ih m T' H' (by omega) hI' w' ρ' a' R g4 g2 g3 ?_ (by rw[g5];exact hp.trans g1)
    intro ex T2 H2 a2 w2 hq2 hst2
    rw[g5]at hst2
    exact hk _ _ _ _ _ hq2 (StA.trans g1 hst2)
   |exit id=>exact hk _ _ _ _ _ hq hst
   |ret=>exact hk _ _ _ _ _ hq hst
 intro w ρ a R hR hf hT hk hp
 exact wp_loop_rounds (n+1) (main (n+1) n T H (by omega) h w ρ a R hR hf hT hk hp)
def b7{α:Type}(x:Option α)(Q:α→Prop):Prop:=match x with
 |some v=>Q v
 |none=>False
def a4z(P:Program)(E:j2)(H:AHeap)(T:List AV):List ResultVar→(List AV→Prop)→Prop
 | [],K=>K []
 | .tmp t::l,K=>a4z P E H T l fun vs=>K (T.getD t C1::vs)
 | .cell a t::l,K=>match T.getD a C1 with
  | .ptr o i=>b7 (L9 P E H t o i) fun v=>a4z P E H T l fun vs=>K (v::vs)
  |_=>False
def c5R:List AV→AV
 | [v]=>v
 |vs=> .tup vs
theorem a9U{H:AHeap}{T:List AV}:∀ {l:List ResultVar} {K:List AV→Prop},a4z P E H T l K→∃vs,K vs∧l.mapM (fun
  | .tmp t=>some (T.getD t C1)
  | .cell a t=>match T.getD a C1 with
   | .ptr o i=>L9 P E H t o i
   |_=>none:ResultVar→Option AV)=some vs
 | [],K,h=>⟨[],h,rfl⟩
 | .tmp t::l,K,h=>by
  obtain⟨vs,h1,h2⟩:=a9U (l:=l) h
  exact⟨_,h1,by simp only[List.mapM_cons,h2];rfl⟩
 | .cell a t::l,K,h=>by
  simp only[a4z]at h
  split at h
  ·rename_i o i e
   unfold b7 at h
   split at h
   ·rename_i v hv
    obtain⟨vs,h1,h2⟩:=a9U (l:=l) h
    exact⟨_,h1,by simp only[List.mapM_cons,h2,e,hv];rfl⟩
   ·cases h
  ·cases h
theorem d0O{H:AHeap}{T:List AV}{fn:Func}{K:List AV→Prop}(h:a4z P E H T fn.results.toList K):∃vs,K vs∧b6K P E H fn T=some (c5R vs):=by
 obtain⟨vs,h1,h2⟩:=a9U h
 refine⟨vs,h1, ?_⟩
 unfold b6K
 erw [h2]
 simp only[Option.bind_eq_bind,Option.bind_some]
 unfold c5R
 split<;>rename_i h3<;>split<;>rename_i h4<;>simp_all
def d8C(P:Program)(E:j2)(fn:Func)(Q:AV→AHeap→Prop):o8→List AV→AHeap→Prop
 | .exit _,_,_=>False
 |_,T,H=>a4z P E H T fn.results.toList fun vs=>Q (c5R vs) H
theorem c8X{f:FuncId}{fn:Func}{c:Code}(hfn:P.funcs[f]? =some fn)(hb:fn.body=some c){args:List AV}{H:AHeap}{Q:AV→AHeap→Prop}
  (h:M1 P E w0 c (args++List.replicate (fn.ntmps - args.length) C1) H (d8C P E fn Q)):FnW P E w0 f args H Q:=by
 intro w ρ vargs R hf hr
 refine calls_of_wp hfn hb ?_
 refine h w ρ { tmps:=vargs++Array.replicate (fn.ntmps - vargs.size) undef,defers:=[] } _ R hf ?_ ?_ ?_
 ·have hl:=A8 hr
  simp only[Array.length_toList]at hl
  rw[Array.toList_append,Array.toList_replicate, ←hl]
  refine Z4 hr ?_
  generalize fn.ntmps - args.length=m
  induction m with
  |zero=>exact r8.2 rfl
  |succ m ihm=>exact o9.2 ⟨b3u,ihm⟩
 ·intro ex T' H' a' w' hq ⟨ρ',g1,g2,g3,g4⟩
  have main:(ex= .normal∨ex= .ret)→bodyPost P fn (c6b E w0 ρ H Q) (d5k ex) a' w':=by
   intro hex
   have hq':a4z P E H' T' fn.results.toList fun vs=>Q (c5R vs) H':=by rcases hex with rfl|rfl<;>exact hq
   obtain⟨vs,h1,h2⟩:=d0O hq'
   obtain⟨u,k1,k2⟩:=c3E (P:=P) g3 h2 g2
   have:bodyPost P fn (c6b E w0 ρ H Q) .normal a' w':=
    ⟨g4,u,k1,ρ',_,H',h1,g1,k2,g3⟩
   rcases hex with rfl|rfl
   ·exact this
   ·exact this
  cases ex with
  |normal=>exact main (.inl rfl)
  |ret=>exact main (.inr rfl)
  |exit id=>exact hq.elim
 ·exact fun u v ρ' H' a' w' h1 h2 h3 h4 h5=>⟨h5,u,ρ',v,H',rfl,h1,h2,h3,h4⟩
theorem c7g{f:FuncId}{args:List AV}{Q:AV→AHeap→Prop}{W:World}(h:FnW P E (d4O W) f args AHeap.empty Q){vargs:Array Value}
  (hE:∀b cs,E b=some cs→b<W.heap.size∧∃arr el fr,W.heap[b]? =some (.cells arr el fr)∧s8 (fun _=>none) cs arr.toList) (hargs:s8 (fun _=>none) args vargs.toList):
  Calls P f vargs W fun e w=>∃u ρ v H',e= .returned u∧Q v H'∧rel ρ v u∧W.heap.size≤w.heap.size∧b9Z W w:=by
 refine Calls.mono (h W (fun _=>none) vargs (G3.start E W hE) (fun _ _=>rfl) hargs) ?_
 intro e w he
 cases e with
 |returned u=>
  obtain⟨ρ,v,H',g1,_,g3,g4⟩:=he
  exact⟨u,ρ,v,H',rfl,g1,g3,g4.size,g4.side.1,g4.side.2,g4.old⟩
 |panicked c=>obtain⟨_,_,_,_,_,h,_⟩:=he;exact h.elim
 |outgrown=>exact he.elim
theorem c7r{f:FuncId}{args:List AV}{W:World}(h:FnW P E (d4O W) f args AHeap.empty fun v _=>v= .bool true){vargs:Array Value}
  (hE:∀b cs,E b=some cs→b<W.heap.size∧∃arr el fr,W.heap[b]? =some (.cells arr el fr)∧s8 (fun _=>none) cs arr.toList) (hargs:s8 (fun _=>none) args vargs.toList):
  Calls P f vargs W fun e w=>e= .returned (.bool true)∧b9Z W w:=by
 refine Calls.mono (c7g h hE hargs) ?_
 rintro e w ⟨u,ρ,v,H',rfl,rfl,hr,_,hk⟩
 simp only[rel]at hr
 exact⟨by rw[hr],hk⟩
end
end Go.Am
end
