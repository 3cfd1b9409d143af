/-
  BlocksCutsSaid: part Pac of its proof.
-/
import Derived.Test.YtdkidgkiplcggaaPab
set_option linter.unusedVariables false
set_option linter.unusedSimpArgs false
set_option maxRecDepth 100000
section
namespace Go.Am
section
def K6(E:g8)(w0:World)(H:AHeap)(ρ:u5)(a:AV)(H':AHeap)(r:Result Value):Prop:=
 ∃v w' ρ',r= .ok v w'∧Ext ρ ρ'∧(∀k,¬(H.next≤k∧k<H'.next)→ρ' k=ρ k)∧rel ρ' a v∧B6 E w0 H' w' ρ'∧H.next≤H'.next
def a1w(ρ:u5)(H H':AHeap):Prop:=∀k,H.next≤k→k<H'.next→ρ k=none
section
variable{E:g8}{w0:World}{H:AHeap}{w:World}{ρ:u5}{P:Program}
theorem K6.same(R:B6 E w0 H w ρ){a:AV}{v:Value}{r:Result Value}(h:r= .ok v w)(hr:rel ρ a v):K6 E w0 H ρ a H r:=
 ⟨v,w,ρ,h,Ext.refl _,fun _ _=>rfl,hr,R,Nat.le_refl _⟩
theorem K6.new(R:B6 E w0 H w ρ){cs:List AV}{arr:Array Value}{el:TypeId}{lo hi:Nat}{a:AV}{v:Value}{w':World}{r:Result Value}
  (hf:a1w ρ H (newCells H cs)) (hl:cs.length≤arr.size) (hr:m6 ρ cs (arr.toList.take cs.length)) (hz:lo=hi∨arr.size≤lo)
  (hw:w'.heap=w.heap.push (.cells arr el (lo,hi))) (h:r= .ok v w') (ha:rel (upd ρ H.next ⟨w.heap.size,0,arr.size⟩) a v) (hs:w'.os=w.os∧w'.output=w.output:=by exact⟨rfl,rfl⟩):
  K6 E w0 H ρ a (newCells H cs) r:=by
 have hn:=hf H.next (Nat.le_refl _) (by simp[newCells])
 refine⟨v,w',_,h,a0E _ hn, ?_,ha,(R.new hn (el:=el) (lo:=lo) (hi:=hi) (pre:=[]) hl hr (fun _=>hz) (by simp)).heap_eq hw hs,by simp[newCells]⟩
 intro k hk
 rw[t6]
 rintro rfl
 exact hk ⟨Nat.le_refl _,by simp[newCells]⟩
theorem b5O(ρ:u5)(k b n:Nat):rel (upd ρ k ⟨b,0,n⟩) (.ptr (.new k) 0) (.pointer (some ⟨b,0,none⟩)):=by
 simp only[rel,E4,A8]
 exact⟨b,0,rfl,rfl⟩
theorem a3G(ρ:u5)(k b n len cap c size:Nat)(ex:Bool)(h1:len≤c)(h2:cap≤c)(h3:ex=true→c=cap)(h4:c*size≤n):
  rel (upd ρ k ⟨b,0,n⟩) (.slc (.new k) 0 len cap ex size) (.slice (some ⟨b,0,none⟩) len c):=by
 simp only[rel,E4,A8,b3l]
 exact⟨⟨b,0,none⟩,c,rfl,h1,h2,h3, .inr ⟨b,0,rfl,rfl⟩,_,rfl,by simpa using h4⟩
theorem a1i{cs:List AV}{arr:Array Value}(h:m6 ρ cs arr.toList):cs.length≤arr.size∧m6 ρ cs (arr.toList.take cs.length):=by
 have hl:=u7 h
 refine⟨by simp at hl;omega, ?_⟩
 rw[List.take_of_length_le (by omega)];exact h
theorem b9x(R:B6 E w0 H w ρ){e:TypeId}{z:AV}(h:G7 P e=some z)(hf:a1w ρ H (newCells H z.cells)):
  K6 E w0 H ρ (.ptr (.new H.next) 0) (newCells H z.cells) ((Instr.alloc e true (.tuple #[])).run P w):=by
 obtain⟨v,h1,h2⟩:=a1B (ρ:=ρ) h w
 obtain⟨g1,g2⟩:=a1i (a0R h2)
 refine K6.new R hf g1 g2 (lo:=0) (hi:=0) (.inl rfl) (el:=e) (w':= { w with heap:=w.heap.push (.cells v.cells e) }) rfl (v:= .pointer (some ⟨w.heap.size,0,none⟩)) ?_ (b5O _ _ _ _)
 simp only[Instr.alloc,newVar,newRow,Sem.run_bind,h1,Result.andThen_ok,run_newObj,Sem.run_pure]
theorem c3g(R:B6 E w0 H w ρ){e:TypeId}{a:AV}{va:Value}(ha:rel ρ a va)(hf:a1w ρ H (newCells H a.cells)):
  K6 E w0 H ρ (.ptr (.new H.next) 0) (newCells H a.cells) ((Instr.box e va).run P w):=by
 obtain⟨g1,g2⟩:=a1i (a0R ha)
 exact K6.new R hf g1 g2 (lo:=0) (hi:=0) (.inl rfl) (el:=e) (w':= { w with heap:=w.heap.push (.cells va.cells e) }) rfl (v:= .pointer (some ⟨w.heap.size,0,none⟩)) rfl (b5O _ _ _ _)
theorem b5I{z:List AV}{zs:List Value}(hz:m6 ρ z zs):∀n,m6 ρ (rep z n) ((List.range (n*zs.length)).map fun i=>zs[i % zs.length]!)
 |0=>by simp[rep,m7]
 |n+1=>by
  have ih:=b5I hz n
  have hsplit:(List.range ((n+1)*zs.length)).map (fun i=>zs[i % zs.length]!)=zs++(List.range (n*zs.length)).map fun i=>zs[i % zs.length]! :=by
   rw[Nat.succ_mul,Nat.add_comm,List.range_add,List.map_append,List.map_map]
   congr 1
   ·apply List.ext_getElem
    ·simp
    ·intro i h1 h2
     simp at h1
     simp[Nat.mod_eq_of_lt h1,h1]
   ·apply List.map_congr_left
    intro i _
    simp
  rw[hsplit,rep]
  exact O6 hz ih
theorem a5B(zero:Array Value)(m:Nat):((Array.range m).map (zero[· % zero.size]!)).toList=(List.range m).map fun i=>zero.toList[i % zero.toList.length]! :=by
 simp only[Array.toList_map,Array.toList_range]
 apply List.map_congr_left
 intro i _
 simp[getElem!_def]
theorem b0z(z:List AV):∀n,(rep z n).length=n*z.length
 |0=>by simp[rep]
 |n+1=>by rw[rep,List.length_append,b0z z n,Nat.succ_mul,Nat.add_comm]
theorem c2P{e:TypeId}{z:AV}{size:Nat}(h:G7 P e=some z)(hs:z.cells.length=size)(n:Nat):∃zero:Array Value,
  (n*size=0→zero= #[])∧(n*size≠0→∃v,(∀w,(zeroValue e).run P w= .ok v w)∧v.cells=zero)∧
  m6 ρ (rep z.cells n) ((Array.range (n*size)).map (zero[· % zero.size]!)).toList:=by
 obtain⟨v,_,h2⟩:=a1B (P:=P) (ρ:=ρ) h default
 have hv:∀w,(zeroValue e).run P w= .ok v w:=fun w=>by
  unfold G7 at h
  split at h
  ·rename_i i hi
   rename_i h1 _
   simp only[zeroValue,Sem.run_bind,u9 hi,Result.andThen_ok]at h1 ⊢
   split at h1
   ·rename_i u hu;simp only[Sem.run_pure]at h1;cases h1;rfl
   ·cases h1
  ·cases h
 have hc:=a0R h2
 have hl:=u7 hc
 simp only[Array.length_toList]at hl
 by_cases h0:n*size=0
 ·refine⟨#[],fun _=>rfl,fun h=>absurd h0 h, ?_⟩
  have:rep z.cells n=[]:=by
   apply List.eq_nil_of_length_eq_zero
   rw[b0z,hs,h0]
  rw[this,h0]
  simp[m7]
 ·refine⟨v.cells,fun h=>absurd h h0,fun _=>⟨v,hv,rfl⟩, ?_⟩
  rw[a5B]
  have:=b5I hc n
  rw[Array.length_toList, ←hl,hs]at this
  rw[Array.length_toList, ←hl,hs]
  exact this
theorem b0Z(R:B6 E w0 H w ρ){t:TypeId}{len:Nat}{ps:List (Nat×AV)}{qs:Array (Nat×Value)}{a:AV}{H':AHeap}
  (h:I2 P H t len ps=some (a,H')) (hp:c2W ρ ps qs.toList) (hf:a1w ρ H H'):K6 E w0 H ρ a H' ((Instr.buildSlice t len qs).run P w):=by
 unfold I2 at h
 simp only[Option.bind_eq_bind,Option.bind_eq_some_iff]at h
 obtain⟨e,he,size,hs,h⟩:=h
 split at h
 ·rename_i hn
  simp only[Option.bind_eq_some_iff]at h
  obtain⟨z,hz,h⟩:=h
  split at h
  ·rename_i hzs
   simp only[Option.bind_eq_some_iff]at h
   obtain⟨cs,hcs,h⟩:=h
   cases h
   obtain⟨zero,h1,h1',h2⟩:=c2P (P:=P) (ρ:=ρ) hz hzs len
   obtain⟨xs,g1,g2,g3⟩:=a4F hcs hp h2
   obtain⟨k1,k2⟩:=a1i g2
   refine K6.new R hf k1 k2 (lo:=0) (hi:=0) (.inl rfl) (el:=e) (w':= { w with heap:=w.heap.push (.cells xs e) }) rfl
    (v:= .slice (some ⟨w.heap.size,0,none⟩) len len) ?_ (a3G _ _ _ _ _ _ _ _ _ (Nat.le_refl _) (Nat.le_refl _) (fun _=>rfl) (by rw[g3];simp))
   simp only[Instr.buildSlice,Sem.run_bind,b7 (a1z he),Result.andThen_ok,A6 hs]
   rw[if_neg (by omega)]
   by_cases h0:len*size=0
   ·have:=h1 h0;subst this
    rw[if_pos h0]
    simp only[pure_bind,g1]
    rfl
   ·obtain⟨v,hv,rfl⟩:=h1' h0
    rw[if_neg h0]
    simp only[Sem.run_bind,hv,Result.andThen_ok,pure_bind,g1]
    rfl
  ·cases h
 ·cases h
theorem b2p(R:B6 E w0 H w ρ){t:TypeId}{len cap:AV}{vl vc:Value}{a:AV}{H':AHeap}
  (h:I6 P H t len cap=some (a,H')) (h1:rel ρ len vl) (h2:rel ρ cap vc) (hf:a1w ρ H H'):K6 E w0 H ρ a H' ((Instr.makeSlice t vl vc).run P w):=by
 unfold I6 at h
 simp only[Option.bind_eq_bind,Option.bind_eq_some_iff]at h
 obtain⟨e,he,size,hs,bytes,hb,l,hl,c,hc,z,hz,h⟩:=h
 split at h
 ·rename_i hcond
  obtain⟨c1,c2,c3,c4,c5,c6⟩:=hcond
  cases h
  obtain⟨i,hi,rfl⟩:=b6j hb
  have e1:∃k,vl= .int k l:=by
   cases len<;>simp only[R7]at hl<;>cases hl
   simp only[rel]at h1;exact⟨_,h1⟩
  have e2:∃k,vc= .int k c:=by
   cases cap<;>simp only[R7]at hc<;>cases hc
   simp only[rel]at h2;exact⟨_,h2⟩
  obtain⟨k1,rfl⟩:=e1
  obtain⟨k2,rfl⟩:=e2
  obtain⟨zero,g1,g1',g2⟩:=c2P (P:=P) (ρ:=ρ) hz c6 c.toNat
  obtain⟨m1,m2⟩:=a1i g2
  refine K6.new R hf m1 m2 (lo:=0) (hi:=0) (.inl rfl) (el:=e) (w':= { w with heap:=w.heap.push (.cells _ e) }) rfl
   (v:= .slice (some ⟨w.heap.size,0,none⟩) l.toNat c.toNat) ?_ (a3G _ _ _ _ _ _ _ _ _ (by omega) (Nat.le_refl _) (fun _=>rfl) (by simp))
  have t1:(decide (c<0)||decide ((i.bytes:Int)*c>2^48))=false:=by
   simp only[Bool.or_eq_false_iff,decide_eq_false_iff_not];omega
  simp only[Instr.makeSlice,Sem.run_bind,b7 (a1z he),Result.andThen_ok,asInt,asIntOf,Sem.run_pure,u9 hi,c1,c2]
  rw[if_neg (by simp only[t1,Bool.false_or,Bool.or_eq_true,decide_eq_true_eq];omega)]
  simp only[Sem.run_bind,run_askRoom,Result.andThen_ok,A6 hs]
  by_cases h0:c.toNat*size=0
  ·have:=g1 h0;subst this
   rw[if_pos h0]
   rfl
  ·obtain⟨v,hv,rfl⟩:=g1' h0
   rw[if_neg h0]
   simp only[Sem.run_bind,hv,Result.andThen_ok]
   rfl
 ·cases h
end
end
section
section
variable{E:g8}{w0:World}{H:AHeap}{w:World}{ρ:u5}{P:Program}
theorem c0Q{a:AV}{v:Value}{n:Int}(h:R7 a=some n)(r:rel ρ a v):∃k,v= .int k n:=by
 cases a<;>simp only[R7]at h<;>cases h
 simp only[rel]at r;exact⟨_,r⟩
theorem B6.mark(R:B6 E w0 H w ρ){b:Nat}{arr:Array Value}{el:TypeId}{lo hi lo' hi':Nat}(hb:w.heap[b]? =some (.cells arr el (lo,hi)))(h0:w0.heap.size≤b)
  (hz:lo=hi∨arr.size≤lo→lo'=hi'∨arr.size≤lo'):B6 E w0 H (u6 w b (.cells arr el (lo',hi'))) ρ:=by
 have hblk:=(Array.getElem?_eq_some_iff.1 hb).1
 refine⟨by rw[a0n];exact R.size, ?_,R.env,R.side, ?_,R.apart,R.pres,R.kin⟩
 ·intro b' hb';rw[r8 _ _ _ hblk,if_neg (by omega)];exact R.old b' hb'
 ·intro k o e
  obtain⟨l,h1,h2,h3⟩:=R.objs k o e
  refine⟨l,h1,h2, ?_⟩
  by_cases hl:l.blk=b
  ·cases o with
   |map es c=>obtain⟨mes,g,_⟩:=h3;rw[hl,hb]at g;cases g
   |iter m since seen last=>obtain⟨_,_,_,g⟩:=h3;rw[hl,hb]at g;cases g
   |cells cs wr pre=>
    obtain⟨arr1,el1,lo1,hi1,g0,g1,g2,g3,g4⟩:=h3
    rw[hl,hb]at g0;cases g0
    exact⟨arr,el,lo',hi',by rw[hl,r8 _ _ _ hblk,if_pos rfl],g1,g2,g3,fun hw=>by rw[←g1];exact hz (by rw[g1];exact g4 hw)⟩
  ·exact G6 h3 (by rw[r8 _ _ _ hblk,if_neg (fun e=>hl e.symm)])
theorem c0Z{b n:Nat}{arr:Array Value}{el:TypeId}{lo hi:Nat}(h:w.heap[b]? =some (.cells arr el (lo,hi))):
  w.freeze ⟨b,n,none⟩ 1=u6 w b (.cells arr el (if lo==hi then(n,n+1) else(min lo n,max hi (n+1)))):=by
 have hb:=(Array.getElem?_eq_some_iff.1 h).1
 unfold World.freeze
 rw[if_neg (by decide)]
 cases w with
 |mk heap tape drawn os output=>
  simp only[u6,World.mk.injEq,and_true]
  apply Array.ext_getElem?
  intro j
  simp only[Array.getElem?_modify,Array.getElem?_setIfInBounds]
  split
  ·rename_i e;subst e
   simp only at hb h
   rw[h];rfl
  ·rfl
theorem a4q{b i:Nat}{arr:Array Value}{el:TypeId}{lo hi:Nat}(h:w.heap[b]? =some (.cells arr el (lo,hi))):
  (markStringish ⟨b,i,none⟩).run P w= .ok () (u6 w b (.cells arr el (if lo==hi then(arr.size,arr.size+1) else(min lo arr.size,max hi (arr.size+1))))):=by
 simp only[markStringish,Sem.run_bind,run_shape,Result.andThen_ok,World.shape?,h,run_freeze,c0Z h]
theorem b4g(f:Value→ByteArray→Sem (ForInStep ByteArray))(hf:∀n s,f (.int .u8 n) s=pure (ForInStep.yield (s.push (UInt8.ofNat n.toNat)))):∀(cs:List AV) (vs:List Value) (bs:List UInt8) (acc:ByteArray),cs.mapM b9E=some bs→m6 ρ cs vs→∀w:World,
  (forIn vs acc f).run P w= .ok ⟨acc.data++bs.toArray⟩ w
 | [],vs,bs,acc,h,hr,w=>by
  rw[m7]at hr;subst hr
  simp at h;subst h
  simp
 |c::cs,[],_,_,_,hr,_=>(t7 hr).elim
 |c::cs,v::vs,bs,acc,h,hr,w=>by
  rw[j3]at hr
  simp only[List.mapM_cons,Option.bind_eq_bind,Option.bind_eq_some_iff]at h
  obtain⟨b,hb,bs',hbs,h⟩:=h
  cases h
  have hv:∃n,v= .int .u8 n∧b=UInt8.ofNat n.toNat:=by
   unfold b9E at hb
   split at hb
   ·cases hb
    have:=hr.1
    simp only[rel]at this
    exact⟨_,this,rfl⟩
   ·cases hb
  obtain⟨n,rfl,rfl⟩:=hv
  have ih:=b4g f hf cs vs bs' (acc.push (UInt8.ofNat n.toNat)) hbs hr.2 w
  rw[List.forIn_cons,hf]
  simp only[pure_bind]
  rw[ih]
  congr 1
  simp[ByteArray.push]
theorem b6T(s:List UInt8):m6 ρ (s.map fun b=> .int .u8 b.toNat) (s.map fun b=>Value.int .u8 b.toNat):=by
 induction s with
 |nil=>exact m7.2 rfl
 |cons b s ih=>exact j3.2 ⟨by simp only[rel],ih⟩
theorem B6.loadsAt(R:B6 E w0 H w ρ){o:Id}{i n:Nat}{as:List AV}{ad:Addr}(h:B5 E H o i n=some as)
  (hd:n=0∨∃b d,E4 ρ o=some (b,d)∧ad=⟨b,d+i,none⟩):∃vs,(∀w',w'.heap=w.heap→(loadCells ad n).run P w'= .ok ⟨vs⟩ w')∧m6 ρ as vs:=by
 rcases hd with rfl|⟨b,d,hb,rfl⟩
 ·have:as=[]:=by
   unfold B5 at h
   split at h
   ·split at h
    ·cases h;simp
    ·cases h
   ·cases h
  subst this
  exact⟨[],fun _ _=>rfl,m7.2 rfl⟩
 ·obtain⟨b',d',vs,h1,h2,h3,_⟩:=R.loads (P:=P) h
  rw[hb]at h1;cases h1
  exact⟨vs,h2,h3⟩
theorem B6.rangeAt(R:B6 E w0 H w ρ){o:Id}{i n:Nat}{as:List AV}{ad:Addr}(h:F4 E H o i n=some as)
  (hd:n=0∨∃b d,E4 ρ o=some (b,d)∧ad=⟨b,d+i,none⟩):∃vs,(∀w',w'.heap=w.heap→(loadCells ad n).run P w'= .ok ⟨vs⟩ w')∧m6 ρ as vs:=by
 unfold F4 at h
 split at h
 ·rename_i e
  subst e
  cases h
  exact⟨[],fun _ _=>rfl,m7.2 rfl⟩
 ·exact R.loadsAt h hd
theorem c1n(R:B6 E w0 H w ρ){src dst:TypeId}{x:AV}{vx:Value}{a:AV}{H':AHeap}(h:J3 P E H src dst x=some (a,H'))(hx:rel ρ x vx)
  (hf:a1w ρ H H'):K6 E w0 H ρ a H' ((convert src dst vx).run P w):=by
 unfold J3 at h
 split at h
 ·rename_i d k _ n h1 h2
  cases h
  simp only[rel]at hx;subst hx
  refine K6.same R (v:= .int k (k.wrap n)) ?_ (by simp only[rel])
  simp only[convert,Sem.run_bind,b7 h1,b7 h2,Result.andThen_ok]
  rfl
 ·rename_i d s h1 h2
  cases h
  simp only[rel]at hx;subst hx
  refine K6.same R (v:= .string ⟨s.toArray⟩) ?_ (by simp only[rel])
  simp only[convert,Sem.run_bind,b7 h1,b7 h2,Result.andThen_ok]
  rfl
 ·rename_i d e s h1 h2
  simp only[rel]at hx;subst hx
  split at h
  ·rename_i he
   split at h
   ·rename_i hs
    cases h
    let cap:=(Question.appendCap (ByteArray.mk s.toArray).size 0 e).cut (w.tape w.drawn (.appendCap (ByteArray.mk s.toArray).size 0 e))
    have hsz:(ByteArray.mk s.toArray).size=s.length:=by simp[ByteArray.size]
    have hcap:s.length≤cap:=by
     simp only[cap,Question.cut,hsz];exact Nat.le_add_right _ _
    let arr:Array Value:=(s.toArray.map fun b=>Value.int .u8 b.toNat)++Array.replicate (cap - (ByteArray.mk s.toArray).size) (.int .u8 0)
    have harr:arr.size=cap:=by simp[arr,hsz];omega
    let w1:World:= { w with drawn:=w.drawn+1,heap:=w.heap.push (.cells arr e) }
    have hb:w1.heap[w.heap.size]? =some (.cells arr e (0,0)):=by simp[w1]
    have hrun:(convert src dst (.string ⟨s.toArray⟩)).run P w= .ok (.slice (some ⟨w.heap.size,0,none⟩) s.length cap)
      (u6 w1 w.heap.size (.cells arr e (arr.size,arr.size+1))):=by
     simp only[convert,Sem.run_bind,b7 h1,b7 h2,b7 he,Result.andThen_ok,Conv.stringToBytes,run_choose,Question.forced,Bool.false_eq_true,
      if_false,newRow,run_newObj,Sem.run_pure]
     have:=a4q (P:=P) (i:=0) hb
     simp only[beq_self_eq_true,if_true]at this
     simp only[w1,arr,cap]at this
     rw[this]
     simp only[Result.andThen_ok,hsz,w1,arr,cap]
    refine K6.new R hf (arr:=arr) (el:=e) (lo:=arr.size) (hi:=arr.size+1) ?_ ?_ (.inr (Nat.le_refl _)) ?_ hrun ?_
    ·simp[arr]
    ·have:arr.toList.take (s.map fun b=>AV.int .u8 b.toNat).length=s.map fun b=>Value.int .u8 b.toNat:=by
      simp[arr]
     rw[this]
     exact b6T s
    ·show(u6 w1 w.heap.size _).heap=_
     simp only[u6,w1]
     apply Array.ext_getElem?
     intro j
     simp only[Array.getElem?_setIfInBounds,Array.getElem?_push,Array.size_push]
     split
     ·rename_i e;subst e;simp
     ·rename_i e;rw[if_neg (fun h=>e h.symm),if_neg (fun h=>e h.symm)]
    ·rw[harr]
     exact a3G _ _ _ _ _ _ _ _ _ hcap hcap (fun h=>by cases h) (by simp)
   ·cases h
  ·cases h
 ·rename_i d e k i len cap ex sz h1 h2
  split at h
  ·rename_i he
   split at h
   ·rename_i hc
    cases h
    obtain⟨rfl,hlen,hcell⟩:=hc
    have hde:=h1.symm.trans h2
    cases hde
    have hx':=hx
    simp only[rel]at hx
    obtain⟨ad,c,rfl,g1,g2,g3,g4,g5⟩:=hx
    obtain⟨b,d',g6,rfl⟩:=g4.resolve_left (by omega)
    obtain⟨cs,hcs⟩:=Option.isSome_iff_exists.1 hcell
    simp only[cellsOf]at hcs
    split at hcs
    ·rename_i cs' wr pre hk
     obtain⟨l,hl,hb0,arr,el,lo,hi,m1,m2,m3,m4,m5⟩:=R.objs k _ hk
     simp only[E4,hl,Option.map_some,Option.some.injEq,Prod.mk.injEq]at g6
     obtain⟨rfl,rfl⟩:=g6
     refine⟨.slice (some ⟨l.blk,l.d+i,none⟩) len c,_,ρ, ?_,Ext.refl _,fun _ _=>rfl,hx',R.mark m1 hb0 (lo':=if lo==hi then arr.size else min lo arr.size)
      (hi':=if lo==hi then arr.size+1 else max hi (arr.size+1)) ?_,Nat.le_refl _⟩
     ·simp only[convert,Sem.run_bind,b7 h1,b7 he,Result.andThen_ok,beq_self_eq_true,a4q m1,Sem.run_pure]
      congr 2
      split<;>rfl
     ·intro hz
      by_cases e1:lo=hi
      ·right;simp[e1]
      ·right
       have:=hz.resolve_left e1
       simp[e1];omega
    ·cases hcs
   ·cases h
  ·cases h
 ·rename_i e h1 h2 _
  split at h
  ·rename_i he
   split at h
   ·cases h
    simp only[rel]at hx;subst hx
    refine K6.same R (v:= .string ⟨#[]⟩) ?_ (by simp only[rel])
    simp only[convert,Sem.run_bind,b7 h1,b7 h2,b7 he,Result.andThen_ok]
    rfl
   ·rename_i o i len cap ex sz _
    split at h
    ·rename_i cs hcs
     simp only[Option.map_eq_some_iff]at h
     obtain⟨bs,hbs,h⟩:=h
     cases h
     simp only[rel]at hx
     obtain⟨ad,c,rfl,g1,g2,g3,g4,g5⟩:=hx
     refine K6.same R (v:= .string ⟨bs.toArray⟩) ?_ (by simp only[rel])
     obtain⟨vs,k1,k2⟩:=R.rangeAt (P:=P) hcs (g4.imp (fun e=>by omega) id)
     simp only[convert,Sem.run_bind,b7 h1,b7 h2,b7 he,Result.andThen_ok,Conv.bytesToString,k1 w rfl]
     rw[←Array.forIn_toList]
     rw[b4g (P:=P) _ (fun _ _=>rfl) cs vs bs _ hbs k2 w]
     simp[ByteArray.empty,ByteArray.emptyWithCapacity]
     rfl
    ·cases h
   ·cases h
  ·cases h
 ·cases h
end
end
section
section
variable{E:g8}{w0:World}{H:AHeap}{w:World}{ρ:u5}{P:Program}
def c2F(ρ:u5):Option AV→Option Value→Prop
 |none,none=>True
 |some a,some v=>rel ρ a v
 |_,_=>False
theorem a2K{a:AV}{v:Value}{y c n:Nat}(h:P1 a y=some n)(hr:rel ρ a v)(hy:y≤c)(code:BoundsCode)(w:World):
  (Instr.sliceBound v c code).run P w= .ok n w:=by
 unfold P1 at h
 split at h
 ·rename_i k i
  split at h
  ·rename_i hc
   cases h
   simp only[rel]at hr;subst hr
   simp only[Instr.sliceBound,asIntOf,Sem.run_bind,Sem.run_pure,Result.andThen_ok]
   rw[if_pos ⟨hc.1,by omega⟩]
   rfl
  ·cases h
 ·cases h
theorem a8F{a:AV}{y n:Nat}(h:P1 a y=some n):n≤y:=by
 unfold P1 at h
 split at h
 ·split at h
  ·cases h;omega
  ·cases h
 ·cases h
theorem a1Y{len cap c:Nat}{low high max:Option AV}{vl vh vm:Option Value}{l h m:Nat}(hb:a1O len cap low high max=some (l,h,m))
  (h1:c2F ρ low vl) (h2:c2F ρ high vh) (h3:c2F ρ max vm) (hc:cap≤c) (hlc:len≤c) (b:Bool) (w:World):
  ∃m',(Instr.sliceBounds b len c vl vh vm).run P w= .ok (l,h,m') w∧m≤m'∧l≤h∧h≤m'∧m'≤c∧(max.isSome→m'=m)∧(max=none→m'=c∧m=cap):=by
 unfold a1O at hb
 simp only[Option.bind_eq_some_iff,Option.some.injEq,Prod.mk.injEq]at hb
 obtain⟨m0,e1,h0,e2,l0,e3,rfl,rfl,rfl⟩:=hb
 have s3:∀code,(match vl with
   |some v=>Instr.sliceBound v h0 code
   |none=>pure 0:Sem Nat).run P w= .ok l0 w∧l0≤h0:=by
  intro code
  cases low with
  |none=>
   cases vl with
   |some v=>exact h1.elim
   |none=>simp only[c3X]at e3;cases e3;exact⟨rfl,Nat.zero_le _⟩
  |some a=>
   cases vl with
   |none=>exact h1.elim
   |some v=>simp only[c3X]at e3;exact⟨a2K e3 h1 (Nat.le_refl _) _ w,a8F e3⟩
 have fin:∀(m':Nat) (x:Sem Nat) (y:Nat→Sem Nat) (code:BoundsCode),x.run P w= .ok m' w→(y m').run P w= .ok h0 w→
   (do let m←x;let h←y m;let l←(match vl with
      |some v=>Instr.sliceBound v h code
      |none=>pure 0);pure (l,h,m):Sem (Nat×Nat×Nat)).run P w= .ok (l0,h0,m') w:=by
  intro m' x y code hx hy
  simp only[Sem.run_bind,hx,Result.andThen_ok,hy,(s3 code).1,Sem.run_pure]
 have hl0:=(s3 .sliceB).2
 cases max with
 |none=>
  cases vm with
  |some v=>exact h3.elim
  |none=>
   simp only[c2M]at e1;cases e1
   cases high with
   |none=>
    cases vh with
    |some v=>exact h2.elim
    |none=>
     simp only[a9p]at e2;cases e2
     refine⟨c, ?_,hc,hl0,hlc,Nat.le_refl _,by simp,fun _=>⟨rfl,rfl⟩⟩
     have:=fin c (pure c) (fun _=>pure len) .sliceB rfl rfl
     cases vl<;>exact this
   |some a=>
    cases vh with
    |none=>exact h2.elim
    |some v=>
     simp only[a9p]at e2
     have:=a8F e2
     refine⟨c, ?_,hc,hl0,by omega,Nat.le_refl _,by simp,fun _=>⟨rfl,rfl⟩⟩
     have:=fin c (pure c) (fun m=>Instr.sliceBound v m (if b then .sliceAcap else .sliceAlen)) .sliceB rfl (a2K e2 h2 hc _ w)
     cases vl<;>exact this
 |some am=>
  cases vm with
  |none=>exact h3.elim
  |some vm=>
   simp only[c2M]at e1
   have hm0:=a8F e1
   cases high with
   |none=>simp only[a9p]at e2;cases e2
   |some a=>
    cases vh with
    |none=>exact h2.elim
    |some v=>
     simp only[a9p]at e2
     have:=a8F e2
     refine⟨m0, ?_,Nat.le_refl _,hl0,by omega,by omega,fun _=>rfl,by simp⟩
     have:=fin m0 (Instr.sliceBound vm c (if b then .slice3Acap else .slice3Alen)) (fun m=>Instr.sliceBound v m .slice3B) .slice3C (a2K e1 h3 hc _ w) (a2K e2 h2 (Nat.le_refl _) _ w)
     cases vl<;>exact this
theorem c0I(R:B6 E w0 H w ρ){t:TypeId}{x:AV}{vx:Value}{low high max:Option AV}{vl vh vm:Option Value}{a:AV}
  (h:a0G P H t x low high max=some a) (hx:rel ρ x vx) (h1:c2F ρ low vl) (h2:c2F ρ high vh) (h3:c2F ρ max vm):
  ∃v,(Instr.sliceAt t vx vl vh vm).run P w= .ok v w∧rel ρ a v:=by
 unfold a0G at h
 split at h
 ·rename_i s hu
  split at h
  ·cases h
  ·rename_i hm
   simp only[Option.bind_eq_bind,Option.bind_eq_some_iff]at h
   obtain⟨⟨l,hh,m⟩,hb,h⟩:=h
   cases h
   simp only[rel]at hx;subst hx
   have hmn:max=none:=by cases max<;>simp_all
   subst hmn
   have hvm:vm=none:=by cases vm with|none=>rfl|some v=>exact h3.elim
   subst hvm
   obtain⟨m',r1,_,g2,g3,g4,_⟩:=a1Y (P:=P) hb h1 h2 (by trivial:c2F ρ none none) (Nat.le_refl _) (Nat.le_refl _) false w
   have hsz:(ByteArray.mk s.toArray).size=s.length:=by simp[ByteArray.size]
   refine⟨.string ((ByteArray.mk s.toArray).extract l hh), ?_, ?_⟩
   ·simp only[Instr.sliceAt,Instr.slice,Sem.run_bind,b7 hu,Result.andThen_ok,Option.isSome_none,Bool.false_eq_true,if_false,hsz,r1]
    rfl
   ·simp only[rel]
    have:(ByteArray.mk s.toArray).extract l hh=⟨((s.drop l).take (hh - l)).toArray⟩:=by
     apply ByteArray.ext
     rw[ByteArray.data_extract]
     simp only
     rw[←Array.toList_inj,Array.toList_extract,List.extract_eq_take_drop]
    rw[this]
 ·rename_i e hu
  simp only[Option.bind_eq_bind,Option.bind_eq_some_iff]at h
  obtain⟨size,hs,⟨l,hh,m⟩,hb,h⟩:=h
  cases h
  simp only[rel]at hx;subst hx
  obtain⟨m',r1,_,g2,g3,g4,_⟩:=a1Y (P:=P) hb h1 h2 h3 (Nat.le_refl _) (Nat.le_refl _) true w
  refine⟨.slice none 0 0, ?_,by simp only[rel]⟩
  simp only[Instr.sliceAt,Instr.slice,Sem.run_bind,b7 hu,Result.andThen_ok,r1,A6 hs,Sem.run_pure]
  have e1:l=0:=by omega
  have e2:hh=0:=by omega
  have e3:m'=0:=by omega
  subst e1 e2 e3
  rfl
 ·rename_i e o i len cap ex sz hu
  simp only[Option.bind_eq_bind,Option.bind_eq_some_iff]at h
  obtain⟨size,hs,⟨l,hh,m⟩,hb,h⟩:=h
  split at h
  ·rename_i hsz
   cases h
   simp only[rel]at hx
   obtain⟨ad,c,rfl,g1,g2,g3,g4,g5⟩:=hx
   obtain⟨m',r1,k1,k2,k3,k4,k5,k6⟩:=a1Y (P:=P) hb h1 h2 h3 g2 g1 true w
   refine⟨.slice (some (if m'=l then ad else ad.add (l*size))) (hh - l) (m' - l), ?_, ?_⟩
   ·simp only[Instr.sliceAt,Instr.slice,Sem.run_bind,b7 hu,Result.andThen_ok,r1,A6 hs,Sem.run_pure]
    congr 2
    split<;>rfl
   ·simp only[rel]
    refine⟨_,_,rfl,by omega,by omega, ?_, ?_, ?_⟩
    ·intro he
     simp only[Bool.or_eq_true]at he
     cases max with
     |some v=>rw[k5 rfl]
     |none=>
      obtain⟨rfl,rfl⟩:=k6 rfl
      rw[g3 (he.resolve_right (by simp))]
    ·by_cases hml:m'=l
     ·left;omega
     ·right
      obtain⟨b,d,hb1,rfl⟩:=g4.resolve_left (by omega)
      refine⟨b,d,hb1, ?_⟩
      rw[if_neg hml,Addr.add_plain,Nat.add_assoc]
    ·cases o with
     |old b=>trivial
     |new k=>
      obtain⟨lc,hlc,hr⟩:=g5
      simp only[a3P,beq_iff_eq]at hsz;subst hsz
      refine⟨lc,hlc, ?_⟩
      have:l*sz+(m' - l)*sz≤c*sz:=by
       rw[←Nat.add_mul];exact Nat.mul_le_mul_right _ (by omega)
      omega
  ·cases h
 ·rename_i n e k i hu
  simp only[Option.bind_eq_bind,Option.bind_eq_some_iff]at h
  obtain⟨size,hs,⟨l,hh,m⟩,hb,h⟩:=h
  split at h
  ·rename_i cs wr pre hk
   split at h
   ·rename_i hn
    cases h
    simp only[rel]at hx
    obtain⟨b,d,hb1,rfl⟩:=hx
    obtain⟨m',r1,k1,k2,k3,k4,k5,k6⟩:=a1Y (P:=P) hb h1 h2 h3 (Nat.le_refl _) (Nat.le_refl _) false w
    have hmm:m'=m:=by
     cases max with
     |some v=>exact k5 rfl
     |none=>obtain⟨rfl,rfl⟩:=k6 rfl;rfl
    subst hmm
    refine⟨.slice (some (if m'=l then⟨b,d+i,none⟩else(⟨b,d+i,none⟩:Addr).add (l*size))) (hh - l) (m' - l), ?_, ?_⟩
    ·simp only[Instr.sliceAt,Instr.sureAddr,Sem.run_bind,b7 hu,Result.andThen_ok,r1,A6 hs,Sem.run_pure]
    ·simp only[rel]
     refine⟨_,_,rfl,by omega,Nat.le_refl _,fun _=>rfl, ?_, ?_⟩
     ·by_cases hml:m'=l
      ·left;omega
      ·right
       refine⟨b,d,hb1, ?_⟩
       rw[if_neg hml,Addr.add_plain,Nat.add_assoc]
     ·obtain⟨lc,hlc,_,arr,el,lo,hi,q1,q2,q3,_⟩:=R.objs k _ hk
      refine⟨lc,hlc, ?_⟩
      have:l*size+(m' - l)*size≤n*size:=by
       rw[←Nat.add_mul];exact Nat.mul_le_mul_right _ (by omega)
      omega
   ·cases h
  ·cases h
 ·cases h
end
end
section
section
variable{E:g8}{w0:World}{H:AHeap}{w:World}{ρ:u5}{P:Program}
theorem a6L{s:TypeId}{f:Nat}{x:Field}(h:a2M P s f=some x):∃fields,P.underlying s=some (.struct fields)∧fields[f]? =some x:=by
 unfold a2M at h
 split at h
 ·rename_i fields hu;exact⟨fields,hu,h⟩
 ·cases h
theorem a3M{b i n:Nat}{f:Field}(hs:A4 P f.type=some n)(hn:n≠0)(w:World):
  (fieldPlace ⟨b,i,none⟩ f).run P w= .ok ⟨b,i+f.offset,none⟩ w:=by
 simp only[fieldPlace,Sem.run_bind,A6 hs,Result.andThen_ok,hn,if_false,Sem.run_pure,Addr.add_plain]
theorem b7f{s:TypeId}{x:AV}{vx:Value}{f:Nat}{a:AV}(h:a3E P s x f=some a)(hx:rel ρ x vx)(w:World):
  ∃v,(Instr.fieldAt s vx f).run P w= .ok v w∧rel ρ a v:=by
 unfold a3E at h
 simp only[Option.bind_eq_bind,Option.bind_eq_some_iff]at h
 obtain⟨fd,hfd,h⟩:=h
 obtain⟨fields,hu,hf⟩:=a6L hfd
 split at h
 ·rename_i o i
  split at h
  ·rename_i hc
   cases h
   obtain⟨n,hn⟩:=Option.isSome_iff_exists.1 hc.1
   have hn0:n≠0:=by rintro rfl;exact hc.2 hn
   simp only[rel]at hx
   obtain⟨b,d,hb,rfl⟩:=hx
   refine⟨.pointer (some ⟨b,d+i+fd.offset,none⟩), ?_,by simp only[rel];exact⟨b,d,hb,by rw[Nat.add_assoc]⟩⟩
   simp only[Instr.fieldAt,Sem.run_bind,b7 hu,Result.andThen_ok,hf,Instr.sureAddr,Sem.run_pure,a3M hn hn0]
  ·cases h
 ·cases h
theorem b9W{s:TypeId}{x:AV}{vx:Value}{f:Nat}{a:AV}(h:b0b P s x f=some a)(hx:rel ρ x vx)(w:World):
  ∃v,(Instr.field s vx f).run P w= .ok v w∧rel ρ a v:=by
 unfold b0b at h
 simp only[Option.bind_eq_bind,Option.bind_eq_some_iff]at h
 obtain⟨fd,hfd,h⟩:=h
 obtain⟨fields,hu,hf⟩:=a6L hfd
 split at h
 ·rename_i cs
  simp only[rel]at hx
  obtain⟨x,rfl,hr⟩:=hx
  obtain⟨v,h1,h2⟩:=a2f hr h w
  exact⟨v,by simp only[Instr.field,Sem.run_bind,b7 hu,Result.andThen_ok,hf,asAgg,Sem.run_pure,h1],h2⟩
 ·cases h
theorem b6t{t:TypeId}{x ix:AV}{vx vi:Value}{a:AV}(h:a0o P t x ix=some a)(hx:rel ρ x vx)(hi:rel ρ ix vi)(w:World):
  ∃v,(Instr.indexAt t vx vi).run P w= .ok v w∧rel ρ a v:=by
 unfold a0o at h
 simp only[Option.bind_eq_bind,Option.bind_eq_some_iff]at h
 obtain⟨n,hn,h⟩:=h
 obtain⟨k,rfl⟩:=c0Q hn hi
 split at h
 ·rename_i e o i len cap ex sz hu
  simp only[Option.bind_eq_some_iff]at h
  obtain⟨size,hs,h⟩:=h
  split at h
  ·rename_i hc
   cases h
   simp only[rel]at hx
   obtain⟨ad,c,rfl,g1,g2,g3,g4,g5⟩:=hx
   obtain⟨b,d,hb,rfl⟩:=g4.resolve_left (by omega)
   refine⟨.pointer (some ⟨b,d+i+n.toNat*size,none⟩), ?_,by simp only[rel];exact⟨b,d,hb,by rw[Nat.add_assoc]⟩⟩
   simp only[Instr.indexAt,asIntOf,Sem.run_bind,Sem.run_pure,Result.andThen_ok,b7 hu]
   rw[if_pos hc]
   simp only[Sem.run_bind,A6 hs,Result.andThen_ok,Sem.run_pure,Addr.add_plain]
  ·cases h
 ·rename_i len e o i hu
  simp only[Option.bind_eq_some_iff]at h
  obtain⟨size,hs,h⟩:=h
  split at h
  ·rename_i hc
   cases h
   simp only[rel]at hx
   obtain⟨b,d,hb,rfl⟩:=hx
   refine⟨.pointer (some ⟨b,d+i+n.toNat*size,none⟩), ?_,by simp only[rel];exact⟨b,d,hb,by rw[Nat.add_assoc]⟩⟩
   simp only[Instr.indexAt,asIntOf,Sem.run_bind,Sem.run_pure,Result.andThen_ok,b7 hu,Instr.sureAddr]
   rw[if_pos hc]
   simp only[Sem.run_bind,A6 hs,Result.andThen_ok,Sem.run_pure,Addr.add_plain]
  ·cases h
 ·cases h
theorem b9B{t:TypeId}{x ix:AV}{vx vi:Value}{a:AV}(h:a7n P t x ix=some a)(hx:rel ρ x vx)(hi:rel ρ ix vi)(w:World):
  ∃v,(Instr.index t vx vi).run P w= .ok v w∧rel ρ a v:=by
 unfold a7n at h
 simp only[Option.bind_eq_bind,Option.bind_eq_some_iff]at h
 obtain⟨n,hn,h⟩:=h
 obtain⟨k,rfl⟩:=c0Q hn hi
 split at h
 ·rename_i len e cs hu
  simp only[Option.bind_eq_some_iff]at h
  obtain⟨size,hs,h⟩:=h
  split at h
  ·rename_i hc
   simp only[rel]at hx
   obtain⟨x,rfl,hr⟩:=hx
   obtain⟨v,h1,h2⟩:=a2f hr h w
   refine⟨v, ?_,h2⟩
   simp only[Instr.index,asIntOf,Sem.run_bind,Sem.run_pure,Result.andThen_ok,b7 hu]
   rw[if_pos hc]
   simp only[Sem.run_bind,A6 hs,Result.andThen_ok,h1]
  ·cases h
 ·rename_i s hu
  split at h
  ·rename_i hc
   simp only[Option.map_eq_some_iff]at h
   obtain⟨b,hb,rfl⟩:=h
   simp only[rel]at hx;subst hx
   refine⟨.int .u8 b.toNat, ?_,by simp only[rel]⟩
   simp only[Instr.index,asIntOf,Sem.run_bind,Sem.run_pure,Result.andThen_ok,b7 hu,hc,if_true]
   have:(ByteArray.mk s.toArray)[n.toNat]? =some b:=by
    rw[←hb]
    show(if h:n.toNat<(ByteArray.mk s.toArray).size then some _ else none)=_
    have hsz:(ByteArray.mk s.toArray).size=s.length:=by simp[ByteArray.size]
    by_cases hl:n.toNat<s.length
    ·rw[dif_pos (by rw[hsz];exact hl),List.getElem?_eq_getElem hl];rfl
    ·rw[dif_neg (by rw[hsz];exact hl),List.getElem?_eq_none (by omega)]
   rw[this]
   rfl
  ·cases h
 ·cases h
theorem b7Y{x:AV}{vx:Value}{xt asserted:TypeId}{ok:Bool}{a:AV}(h:a6k P x asserted ok=some a)(hx:rel ρ x vx)(w:World):
  ∃v,(Instr.typeAssert vx xt asserted ok).run P w= .ok v w∧rel ρ a v:=by
 unfold a6k at h
 split at h
 ·cases h
 ·rename_i d hd hu
  have fails:∀ {dyn:Option TypeId} {static:Option TypeId} {miss:String},(if ok then(G7 P asserted).map fun z=>AV.tup [z, .bool false]else none)=some a→
    ∃v,(if ok then(do pure (.tuple #[←zeroValue asserted, .bool false])) else runtimePanic (.typeAssertion static dyn asserted miss):Sem Value).run P w= .ok v w∧rel ρ a v:=by
   intro dyn static miss hfail
   split at hfail
   ·rename_i hok
    simp only[Option.map_eq_some_iff]at hfail
    obtain⟨z,hz,rfl⟩:=hfail
    obtain⟨v,h1,h2⟩:=a1B (ρ:=ρ) hz w
    refine⟨.tuple #[v, .bool false], ?_, ?_⟩
    ·rw[if_pos hok];simp only[Sem.run_bind,h1,Result.andThen_ok,Sem.run_pure]
    ·simp only[rel]
     exact⟨_,rfl,j3.2 ⟨h2,j3.2 ⟨by simp only[rel],m7.2 rfl⟩⟩⟩
   ·cases hfail
  simp only at h
  split at h
  ·simp only[rel]at hx;subst hx
   obtain⟨v,h1,h2⟩:=fails (dyn:=none) (static:=some xt) (miss:="") h
   refine⟨v,Eq.trans ?_ h1,h2⟩
   unfold Instr.typeAssert
   simp only[Sem.run_bind,b7 hu,Result.andThen_ok]
  ·rename_i t u
   simp only[rel]at hx
   obtain⟨vu,rfl,hr⟩:=hx
   have hrun:(Instr.typeAssert (.iface t vu) xt asserted ok).run P w=(if t=asserted then pure (if ok then .tuple #[vu, .bool true]else vu)
     else(if ok then(do pure (.tuple #[←zeroValue asserted, .bool false])) else runtimePanic (.typeAssertion (some xt) (some t) asserted "")):Sem Value).run P w:=by
    unfold Instr.typeAssert
    simp only[Sem.run_bind,b7 hu,Result.andThen_ok]
   split at h
   ·rename_i he
    cases h
    subst he
    refine⟨if ok then .tuple #[vu, .bool true]else vu, ?_, ?_⟩
    ·rw[hrun,if_pos rfl];rfl
    ·split
     ·simp only[rel]
      exact⟨_,rfl,j3.2 ⟨hr,j3.2 ⟨by simp only[rel],m7.2 rfl⟩⟩⟩
     ·exact hr
   ·rename_i he
    obtain⟨v,h1,h2⟩:=fails (dyn:=some t) (static:=some xt) (miss:="") h
    exact⟨v,by rw[hrun,if_neg he];exact h1,h2⟩
  ·cases h
 ·cases h
theorem a1M{kt:TypeId}{k:AV}{vk:Value}(h:a4e P kt k=true)(hk:rel ρ k vk):
  (∃d,P.underlying kt=some d∧((∃i j n,d= .int i∧k= .int j n∧vk= .int j n)∨(∃s,d= .string∧k= .str s∧vk= .string ⟨s.toArray⟩)∨(∃b,d= .bool∧k= .bool b∧vk= .bool b))):=by
 unfold a4e at h
 split at h
 ·rename_i i j n hu;simp only[rel]at hk;exact⟨_,hu, .inl ⟨i,j,n,rfl,rfl,hk⟩⟩
 ·rename_i s hu;simp only[rel]at hk;exact⟨_,hu, .inr (.inl ⟨s,rfl,rfl,hk⟩)⟩
 ·rename_i b hu;simp only[rel]at hk;exact⟨_,hu, .inr (.inr ⟨b,rfl,rfl,hk⟩)⟩
 ·cases h
theorem L1{kt:TypeId}{k:AV}{vk:Value}(h:a4e P kt k=true)(hk:rel ρ k vk)(e:Bool)(n:Nat)(w:World):
  (Instr.checkKey e (n+1) kt vk).run P w= .ok () w:=by
 obtain⟨d,hu,hc⟩:=a1M h hk
 rw[Instr.checkKey]
 simp only[Sem.run_bind,b7 hu,Result.andThen_ok]
 rcases hc with ⟨i,j,n,rfl,rfl,rfl⟩|⟨s,rfl,rfl,rfl⟩|⟨b,rfl,rfl,rfl⟩<;>rfl
theorem b5Z{es:List (AV×AV×Nat)}:∀ {l:List MapEntry} (_:a0d ρ es l) (i:Nat) {k v:AV} {n:Nat},es[i]? =some (k,v,n)→
  ∃e,l[i]? =some e∧rel ρ k e.key∧rel ρ v e.val∧e.born=n:=by
 induction es with
 |nil=>intro l _ i k v n h;simp at h
 |cons x es ih=>
  obtain⟨k0,v0,n0⟩:=x
  intro l hr i k v n h
  simp only[a0d]at hr
  obtain⟨e,r,rfl,h1,h2,h3,h4⟩:=hr
  cases i with
  |zero=>simp at h;obtain⟨rfl,rfl,rfl⟩:=h;exact⟨e,rfl,h1,h2,h3⟩
  |succ i=>simp at h;obtain⟨e',g1,g2⟩:=ih h4 i h;exact⟨e',by simpa using g1,g2⟩
theorem c1k{es:List (AV×AV×Nat)}:∀ {l:List MapEntry} (_:a0d ρ es l),es.length=l.length:=by
 induction es with
 |nil=>intro l h;simp only[a0d]at h;subst h;rfl
 |cons x es ih=>
  obtain⟨k0,v0,n0⟩:=x
  intro l h
  simp only[a0d]at h
  obtain⟨e,r,rfl,_,_,_,h4⟩:=h
  simp[ih h4]
theorem b3Q{es fs:List (AV×AV×Nat)}:∀ {l m:List MapEntry} (_:a0d ρ es l) (_:a0d ρ fs m),a0d ρ (es++fs) (l++m):=by
 induction es with
 |nil=>intro l m h h';simp only[a0d]at h;subst h;exact h'
 |cons x es ih=>
  obtain⟨k0,v0,n0⟩:=x
  intro l m h h'
  simp only[a0d]at h
  obtain⟨e,r,rfl,h1,h2,h3,h4⟩:=h
  exact⟨e,r++m,rfl,h1,h2,h3,ih h4 h'⟩
theorem b5N{es:List (AV×AV×Nat)}:∀ {l:List MapEntry} (_:a0d ρ es l) (i:Nat) {k v:AV} {n:Nat} {e:MapEntry},rel ρ k e.key→rel ρ v e.val→e.born=n→
  a0d ρ (es.set i (k,v,n)) (l.set i e):=by
 induction es with
 |nil=>intro l h i k v n e _ _ _;simp only[a0d]at h;subst h;simp[a0d]
 |cons x es ih=>
  obtain⟨k0,v0,n0⟩:=x
  intro l h i k v n e h1 h2 h3
  simp only[a0d]at h
  obtain⟨e0,r,rfl,g1,g2,g3,g4⟩:=h
  cases i with
  |zero=>exact⟨e,r,rfl,h1,h2,h3,g4⟩
  |succ i=>exact⟨e0,r.set i e,rfl,g1,g2,g3,ih g4 i h1 h2 h3⟩
theorem b3H{d:TypeDesc}{k k':AV}{vk vk':Value}{r:Bool}(hd:(∃i j n,d= .int i∧k= .int j n∧vk= .int j n)∨(∃s,d= .string∧k= .str s∧vk= .string ⟨s.toArray⟩)∨(∃b,d= .bool∧k= .bool b∧vk= .bool b))
  (h:b8U k k'=some r) (hk':rel ρ k' vk'):Instr.sameNow d vk vk'=some r:=by
 rcases hd with ⟨i,j,n,rfl,rfl,rfl⟩|⟨s,rfl,rfl,rfl⟩|⟨b,rfl,rfl,rfl⟩
 ·cases k'<;>simp only[b8U]at h<;>try (cases h;done)
  simp only[rel]at hk';subst hk'
  split at h
  ·rename_i e;subst e;cases h;simp[Instr.sameNow]
  ·cases h
 ·cases k'<;>simp only[b8U]at h<;>try (cases h;done)
  simp only[rel]at hk';subst hk'
  cases h
  simp only[Instr.sameNow,a9P]
 ·cases k'<;>simp only[b8U]at h<;>try (cases h;done)
  simp only[rel]at hk';subst hk'
  cases h
  simp only[Instr.sameNow]
theorem a0P{d:TypeDesc}{k:AV}{vk:Value}(hd:(∃i j n,d= .int i∧k= .int j n∧vk= .int j n)∨(∃s,d= .string∧k= .str s∧vk= .string ⟨s.toArray⟩)∨(∃b,d= .bool∧k= .bool b∧vk= .bool b)):
  ∀ {es:List (AV×AV×Nat)} {l:List MapEntry} {i:Nat} {r:Option (Nat×AV×Nat)},a5L k es i=some r→a0d ρ es l→
  (r=none∧Instr.findNow d vk l i=some none)∨∃j v n vv k',r=some (i+j,v,n)∧Instr.findNow d vk l i=some (some (i+j,vv))∧es[j]? =some (k',v,n)∧rel ρ v vv∧
   ∃e,l[j]? =some e∧e.val=vv∧Instr.sameNow d vk e.key=some true:=by
 intro es
 induction es with
 |nil=>intro l i r h hr;simp only[a0d]at hr;subst hr;simp only[a5L]at h;cases h;exact .inl ⟨rfl,rfl⟩
 |cons x es ih=>
  obtain⟨k0,v0,n0⟩:=x
  intro l i r h hr
  simp only[a0d]at hr
  obtain⟨e,rs,rfl,g1,g2,g3,g4⟩:=hr
  simp only[a5L]at h
  split at h
  ·rename_i hk
   cases h
   have:=b3H hd hk g1
   refine .inr ⟨0,v0,n0,e.val,k0,rfl, ?_,rfl,g2,e,rfl,rfl,this⟩
   simp only[Instr.findNow,this];rfl
  ·rename_i hk
   have hs:=b3H hd hk g1
   rcases ih h g4 with ⟨rfl,hh⟩|⟨j,v,n,vv,k',rfl,hh,hg,hv,e',he'⟩
   ·exact .inl ⟨rfl,by simp only[Instr.findNow,hs];exact hh⟩
   ·refine .inr ⟨j+1,v,n,vv,k',by rw[show i+(j+1)=i+1+j by omega], ?_,by simpa using hg,hv,e',by simpa using he'.1,he'.2⟩
    simp only[Instr.findNow,hs]
    rw[show i+(j+1)=i+1+j by omega];exact hh
  ·cases h
end
end
end Go.Am
end
