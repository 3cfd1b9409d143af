/-
  TransferRisesSaid: part Qbi of its proof.
-/
import Derived.Test.YtdkidgkiplcggaaGreatQbh
import Derived.Test.YtdkidgkiplcggaaGreatQal
import Derived.ChangeSlices
import Derived.Carry
import Derived.Test.YtdkidgkiplcggaaGreatQau
import Derived.SizedLaws
import Derived.Test.YtdkidgkiplcggaaGreatQax
import Derived.Test.YtdkidgkiplcggaaGreatRows
import Derived.Test.YtdkidgkiplcggaaGreatQbe
set_option linter.unusedVariables false
set_option linter.unusedSimpArgs false
set_option maxRecDepth 100000
section
open Go.Proofs Go Go.Am Go.Op
namespace Go.Proofs.YtdkidgkiplcggaaGreat.d
section
set_option linter.unusedSectionVars false
theorem c2d{m:Mo}{fn at':Int}{f:Fr}(h:(W3 m fn at' f).2=0):(0≤fn∧fn<m.funcs.length)∧∃r,m.funcs[fn.toNat]? =some r∧b1A m r f=true∧∃i y,(b6F r).findIdx? (fun p=>decide (p=at'))=some i∧(c2E r)[i]? =some y∧(doS m r y f).2=0∧(W3 m fn at' f).1=(a0N y (b1d r i)).map fun t=>(t,(doS m r y f).1):=by
 unfold W3 at h ⊢
 by_cases h0:(F3 m fn).2≠0
 ·rw[if_pos h0]at h;exact absurd h h0
 rw[if_neg h0]at h ⊢
 have hr:0≤fn∧fn<m.funcs.length:=by
  have hfst:(F3 m fn).2=0:=Classical.not_not.1 h0
  unfold F3 at hfst
  by_cases he:(a3G m).2≠0
  ·rw[if_pos he]at hfst;exact absurd hfst he
  rw[if_neg he]at hfst
  by_cases hx:fn<0∨(m.funcs.length:Int)≤fn
  ·rw[if_pos hx]at hfst;cases hfst
  omega
 refine⟨hr, ?_⟩
 cases hf:m.funcs[fn.toNat]? with
 |none=>rw[hf]at h;cases h
 |some r=>
  rw[hf]at h
  refine⟨r,rfl, ?_⟩
  simp only at h ⊢
  unfold b7x at h ⊢
  cases hm:b1A m r f with
  |false=>rw[if_pos hm]at h;cases h
  |true=>
   rw[if_neg (by simp[hm])]at h ⊢
   refine⟨rfl, ?_⟩
   cases hi:(b6F r).findIdx? (fun p=>decide (p=at')) with
   |none=>rw[hi]at h;cases h
   |some i=>
    rw[hi]at h
    simp only at h ⊢
    cases hy:(c2E r)[i]? with
    |none=>rw[hy]at h;cases h
    |some y=>
     rw[hy]at h
     simp only at h ⊢
     refine⟨i,y,rfl,hy, ?_⟩
     unfold a9A at h ⊢
     by_cases hd:(doS m r y f).2≠0
     ·rw[if_pos hd]at h;exact absurd h hd
     rw[if_neg hd]at h ⊢
     by_cases ha:((a0N y (b1d r i)).all fun t=>decide (t∈b6F r))=true
     ·rw[if_pos ha];exact⟨Classical.not_not.1 hd,rfl⟩
     ·rw[if_neg ha]at h;cases h
@[simp] theorem d8x(l:List (Int×Fr)):m9 (c0P l)=some (.int .i64 l.length):=by simp[c0P]
section
variable{E:j2}{w0:j9}
end
end
section
set_option linter.unusedSectionVars false
def okF(a b:Fr):Bool:=decide (a.locals.length=b.locals.length)&&decide (a.stack.length=b.stack.length)
def a7o(a b:Fr):Fr:=⟨List.zipWith R6 a.locals b.locals,List.zipWith R6 a.stack b.stack⟩
theorem c5p(x y:Int):R6 x y=0∨R6 x y=x:=by
 unfold R6
 split
 ·exact .inl rfl
 ·exact .inr rfl
theorem b9o:∀ {a c:List Int},a.length=c.length→W8 a (List.zipWith R6 a c)
 | [],[],_=>trivial
 |x::a,y::c,h=>⟨c5p x y,b9o (by simpa using h)⟩
 | [],_::_,h=>by simp at h
 |_::_,[],h=>by simp at h
theorem c7s:∀ {a c:List Int},(∀n∈a,I64 n)→∀n∈List.zipWith R6 a c,I64 n
 | [],c,_=>by cases c<;>simp
 |x::a,[],_=>by simp
 |x::a,y::c,h=>fun n hn=>by
  rw[List.zipWith_cons_cons,List.mem_cons]at hn
  rcases hn with rfl|hn
  ·rcases c5p x y with e|e
   ·rw[e];unfold I64;omega
   ·rw[e];exact h x List.mem_cons_self
  ·exact c7s (fun m hm=>h m (List.mem_cons_of_mem _ hm)) n hn
def c6r(a b:Fr):Bool:=okF a b&&decide (false ∉ List.zipWith V3 a.locals b.locals)&&decide (false ∉ List.zipWith V3 a.stack b.stack)
theorem d3e{a b:Fr}(h:c7p a b):c6r a b=true:=by
 obtain⟨h1,h2⟩:=h
 unfold c6r okF
 rw[decide_eq_true h1.len,decide_eq_true h2.len,decide_eq_true ((b9j h1.len).2 h1),decide_eq_true ((b9j h2.len).2 h2)]
 rfl
theorem d2I{m:Mo}{fn at':Int}{f:Fr}(h:(W3 m fn at' f).2=0):∀q∈(W3 m fn at' f).1,q.2.locals.length=f.locals.length∧q.2.stack.length≤4096:=fun q hq=>by
 have henc:(a3G m).2=0:=by
  unfold W3 at h
  by_cases h0:(F3 m fn).2≠0
  ·rw[if_pos h0]at h;exact absurd h h0
  ·unfold F3 at h0
   by_cases he:(a3G m).2≠0
   ·rw[if_pos he]at h0;exact absurd he h0
   ·omega
 obtain⟨_,r,hr,hm,i,y,_,_,hd,he⟩:=c2d h
 rw[he]at hq
 obtain⟨t,_,rfl⟩:=List.mem_map.1 hq
 have hmay:(f.stack.length:Int)≤r.stack:=by
  unfold b1A at hm
  simp only[Bool.and_eq_true,decide_eq_true_eq]at hm
  exact hm.1.1.2
 have hg:=c6a henc (List.mem_of_getElem? hr)
 have h1:=d3w hd hmay
 have h2:=hg.st1
 exact⟨h1.1,by have:=h1.2;simp only;omega⟩
theorem d2u{m:Mo}{fn at':Int}{f:Fr}(h:(W3 m fn at' f).2=0):(W3 m fn at' f).1.length≤65540:=by
 have henc:(a3G m).2=0:=by
  unfold W3 at h
  by_cases h0:(F3 m fn).2≠0
  ·rw[if_pos h0]at h;exact absurd h h0
  ·unfold F3 at h0
   by_cases he:(a3G m).2≠0
   ·rw[if_pos he]at h0;exact absurd he h0
   ·omega
 obtain⟨_,r,hr,hm,i,y,_,hy,hd,he⟩:=c2d h
 rw[he,List.length_map]
 have hg:=c6a henc (List.mem_of_getElem? hr)
 have hs:=(c9T (hg.ins y (List.mem_of_getElem? hy))).2.1
 refine c5M ?_ _
 obtain⟨_,_,_,h49,hn⟩:=b9n hs
 by_cases h:y.op=49
 ·exact(h49 h).1
 ·rw[(hn h).1];simp
section
variable{E:j2}{w0:j9}
theorem c6h{a b:Fr}(h1:a.locals.length<2^40)(h2:a.stack.length<2^40):K9 Tryz.prog E w0 W9 [frD a,frD b, .fn (.func B7) [] []] (.tup [iD (if a.locals.length=b.locals.length then List.zipWith R6 a.locals b.locals else[]),iD (if okF a b=true then List.zipWith R6 a.stack b.stack else[]), .bool (okF a b)]):=fun S=>by
 refine a9H ?_
 unfold a5t
 refine b4A fun ka aa na=> ?_
 have ca:u9 (S.set ka ⟨2,[H9 a],aa⟩) ka 2 (H9 a):=u9.new
 have l1:S.le (S.set ka ⟨2,[H9 a],aa⟩):=b8.le_new na
 generalize (S.set ka ⟨2,[H9 a],aa⟩)=T at ca l1
 refine b4A fun kb ab nb=> ?_
 have ca:=ca.set (o:=⟨2,[H9 b],ab⟩) nb
 have cb:u9 (T.set kb ⟨2,[H9 b],ab⟩) kb 2 (H9 b):=u9.new
 have l1:=b8.le_trans l1 (b8.le_new (o:=⟨2,[H9 b],ab⟩) nb)
 generalize (T.set kb ⟨2,[H9 b],ab⟩)=T at ca cb l1
 have e0:(H9 a)[0]? =some (iD a.locals):=rfl
 have e1:(H9 a)[1]? =some (iD a.stack):=rfl
 have g0:(H9 b)[0]? =some (iD b.locals):=rfl
 have g1:(H9 b)[1]? =some (iD b.stack):=rfl
 rw[E2,oD,ca.ld,Nat.zero_add,e0,oD,E2,oD,cb.ld,Nat.zero_add,g0,oD]
 refine(show j8 Tryz.prog E w0 H6 [iD a.locals,iD b.locals, .fn (.func B7) [] []] T _ from(b7T h1).use ?_)
 simp only[exD,List.getElem?_cons_zero,List.getElem?_cons_succ,oD,unN]
 by_cases c:a.locals.length=b.locals.length
 ·rw[decide_eq_true c,Bool.not_true,cdF,E2,oD,ca.ld,Nat.zero_add,e1,oD,E2,oD,cb.ld,Nat.zero_add,g1,oD]
  refine(show j8 Tryz.prog E w0 H6 [iD a.stack,iD b.stack, .fn (.func B7) [] []] T _ from(b7T h2).use ?_)
  simp only[exD,List.getElem?_cons_zero,List.getElem?_cons_succ,oD]
  refine d9.less l1 (d9.here ⟨?_,rfl⟩)
  unfold okF
  rw[decide_eq_true c,Bool.true_and]
  by_cases c2:a.stack.length=b.stack.length
  ·rw[decide_eq_true c2,if_pos c2,if_pos rfl]
  ·rw[decide_eq_false c2,if_neg c2,if_neg (show ¬(false=true) by decide)]
 ·rw[decide_eq_false c,Bool.not_false,cdT]
  have ho:okF a b=false:=by unfold okF;rw[decide_eq_false c];rfl
  rw[ho,if_neg c,if_neg (show ¬(false=true) by decide)]
  exact d9.less l1 (d9.weak (d':= .tup [iD [],iD [], .bool false]) (Wk.tup ⟨Wk.nil 1,Wk.nil 1,Wk.refl _,trivial⟩) (d9.here ⟨rfl,rfl⟩))
theorem c4v{a b:Fr}(h1:a.locals.length<2^40)(h2:a.stack.length<2^40):K9 Tryz.prog E w0 U2 [frD a,frD b, .fn (.func C0) [] []] (.tup [boD (if a.locals.length=b.locals.length then List.zipWith V3 a.locals b.locals else[]),boD (if okF a b=true then List.zipWith V3 a.stack b.stack else[]), .bool (okF a b)]):=fun S=>by
 refine a8C ?_
 unfold a4I
 refine b4A fun ka aa na=> ?_
 have ca:u9 (S.set ka ⟨2,[H9 a],aa⟩) ka 2 (H9 a):=u9.new
 have l1:S.le (S.set ka ⟨2,[H9 a],aa⟩):=b8.le_new na
 generalize (S.set ka ⟨2,[H9 a],aa⟩)=T at ca l1
 refine b4A fun kb ab nb=> ?_
 have ca:=ca.set (o:=⟨2,[H9 b],ab⟩) nb
 have cb:u9 (T.set kb ⟨2,[H9 b],ab⟩) kb 2 (H9 b):=u9.new
 have l1:=b8.le_trans l1 (b8.le_new (o:=⟨2,[H9 b],ab⟩) nb)
 generalize (T.set kb ⟨2,[H9 b],ab⟩)=T at ca cb l1
 have e0:(H9 a)[0]? =some (iD a.locals):=rfl
 have e1:(H9 a)[1]? =some (iD a.stack):=rfl
 have g0:(H9 b)[0]? =some (iD b.locals):=rfl
 have g1:(H9 b)[1]? =some (iD b.stack):=rfl
 rw[E2,oD,ca.ld,Nat.zero_add,e0,oD,E2,oD,cb.ld,Nat.zero_add,g0,oD]
 refine(show j8 Tryz.prog E w0 D1 [iD a.locals,iD b.locals, .fn (.func C0) [] []] T _ from(b4L h1).use ?_)
 simp only[exD,List.getElem?_cons_zero,List.getElem?_cons_succ,oD,unN]
 by_cases c:a.locals.length=b.locals.length
 ·rw[decide_eq_true c,Bool.not_true,cdF,E2,oD,ca.ld,Nat.zero_add,e1,oD,E2,oD,cb.ld,Nat.zero_add,g1,oD]
  refine(show j8 Tryz.prog E w0 D1 [iD a.stack,iD b.stack, .fn (.func C0) [] []] T _ from(b4L h2).use ?_)
  simp only[exD,List.getElem?_cons_zero,List.getElem?_cons_succ,oD]
  refine d9.less l1 (d9.here ⟨?_,rfl⟩)
  unfold okF
  rw[decide_eq_true c,Bool.true_and]
  by_cases c2:a.stack.length=b.stack.length
  ·rw[decide_eq_true c2,if_pos c2,if_pos rfl]
  ·rw[decide_eq_false c2,if_neg c2,if_neg (show ¬(false=true) by decide)]
 ·rw[decide_eq_false c,Bool.not_false,cdT]
  have ho:okF a b=false:=by unfold okF;rw[decide_eq_false c];rfl
  rw[ho,if_neg c,if_neg (show ¬(false=true) by decide)]
  exact d9.less l1 (d9.weak (d':= .tup [boD [],boD [], .bool false]) (Wk.tup ⟨Wk.nil 1,Wk.nil 1,Wk.refl _,trivial⟩) (d9.here ⟨rfl,rfl⟩))
theorem d4w{a b:Fr}(h1:a.locals.length<2^40)(h2:a.stack.length<2^40):K9 Tryz.prog E w0 a2r [frD a,frD b] (.tup [frD (if okF a b=true then a7o a b else fr0), .bool (okF a b)]):=fun S=>by
 refine b5B ?_
 unfold b0M
 refine b4A fun ka aa na=> ?_
 have ca:u9 (S.set ka ⟨2,[H9 a],aa⟩) ka 2 (H9 a):=u9.new
 have l1:S.le (S.set ka ⟨2,[H9 a],aa⟩):=b8.le_new na
 generalize (S.set ka ⟨2,[H9 a],aa⟩)=T at ca l1
 refine b4A fun kb ab nb=> ?_
 have ca:=ca.set (o:=⟨2,[H9 b],ab⟩) nb
 have cb:u9 (T.set kb ⟨2,[H9 b],ab⟩) kb 2 (H9 b):=u9.new
 have l1:=b8.le_trans l1 (b8.le_new (o:=⟨2,[H9 b],ab⟩) nb)
 generalize (T.set kb ⟨2,[H9 b],ab⟩)=T at ca cb l1
 intro kc ac nc
 have ca:=ca.set (o:=⟨2,[[.nilSlc, .nilSlc]],ac⟩) nc
 have cb:=cb.set (o:=⟨2,[[.nilSlc, .nilSlc]],ac⟩) nc
 have hSc:S kc=none:=b8.none_of l1 nc
 have cc:u9 (T.set kc ⟨2,[[.nilSlc, .nilSlc]],ac⟩) kc 2 [.nilSlc, .nilSlc]:=u9.new
 have l1:=b8.le_trans l1 (b8.le_new (o:=⟨2,[[.nilSlc, .nilSlc]],ac⟩) nc)
 rw[show([D.nilSlc, .nilSlc]:List D).length=2 from rfl]
 generalize (T.set kc ⟨2,[[.nilSlc, .nilSlc]],ac⟩)=T at ca cb cc l1
 rw[ca.all (n:=2) (by decide) rfl,oD,cb.all (n:=2) (by decide) rfl,oD]
 refine(show j8 Tryz.prog E w0 W9 [frD a,frD b, .fn (.func B7) [] []] T _ from(c6h h1 h2).use ?_)
 simp only[exD,List.getElem?_cons_zero,List.getElem?_cons_succ,oD,unN]
 cases ho:okF a b with
 |false=>
  rw[Bool.not_false,cdT,fiN,agS,oD]
  refine cc.st (ds:=[.nilSlc, .nilSlc]) (U9 _) ⟨rfl,by decide,by decide⟩ fun a'=> ?_
  rw[(u9.new).all (n:=2) (by decide) rfl,oD,if_neg (by decide)]
  refine d9.less (b8.le_set l1 hSc) (d9.weak (d':= .tup [frD fr0, .bool false]) (Wk.tup ⟨Wk.agg ⟨Wk.nil 1,Wk.nil 1,trivial⟩,Wk.refl _,trivial⟩) (d9.here ⟨rfl,rfl⟩))
 |true=>
  have hl:a.locals.length=b.locals.length:=by unfold okF at ho;simp at ho;exact ho.1
  rw[Bool.not_true,cdF,if_pos hl,if_pos rfl,if_pos rfl,
   show r6 [D.nilSlc, .nilSlc] [(0,1,iD (List.zipWith R6 a.locals b.locals)),(1,1,iD (List.zipWith R6 a.stack b.stack))]=some (H9 (a7o a b)) from rfl,agS,oD]
  refine cc.st (ds:=H9 (a7o a b)) (U9 _) ⟨rfl,by decide,by decide⟩ fun a'=> ?_
  rw[show l7 [D.nilSlc, .nilSlc] 0 (H9 (a7o a b))=H9 (a7o a b) from rfl,(u9.new).all (n:=2) (by decide) rfl,oD]
  exact d9.less (b8.le_set l1 hSc) (d9.here ⟨rfl,rfl⟩)
theorem d3O{a b:Fr}(h1:a.locals.length<2^40)(h2:a.stack.length<2^40):K9 Tryz.prog E w0 a2s [frD a,frD b] (.bool (c6r a b)):=fun S=>by
 refine b5l ?_
 unfold b0Z
 refine b4A fun ka aa na=> ?_
 have ca:u9 (S.set ka ⟨2,[H9 a],aa⟩) ka 2 (H9 a):=u9.new
 have l1:S.le (S.set ka ⟨2,[H9 a],aa⟩):=b8.le_new na
 generalize (S.set ka ⟨2,[H9 a],aa⟩)=T at ca l1
 refine b4A fun kb ab nb=> ?_
 have ca:=ca.set (o:=⟨2,[H9 b],ab⟩) nb
 have cb:u9 (T.set kb ⟨2,[H9 b],ab⟩) kb 2 (H9 b):=u9.new
 have l1:=b8.le_trans l1 (b8.le_new (o:=⟨2,[H9 b],ab⟩) nb)
 generalize (T.set kb ⟨2,[H9 b],ab⟩)=T at ca cb l1
 rw[ca.all (n:=2) (by decide) rfl,oD,cb.all (n:=2) (by decide) rfl,oD]
 refine(show j8 Tryz.prog E w0 U2 [frD a,frD b, .fn (.func C0) [] []] T _ from(c4v h1 h2).use ?_)
 simp only[exD,List.getElem?_cons_zero,List.getElem?_cons_succ,oD]
 unfold c6r
 cases ho:okF a b with
 |false=>
  simp only[M4,t3,vdF,gdF,oD,M8,Bool.false_eq_true,if_false,Bool.false_and]
  exact d9.less l1 (d9.here ⟨rfl,rfl⟩)
 |true=>
  have hl:a.locals.length=b.locals.length:=by unfold okF at ho;simp at ho;exact ho.1
  simp only[M4,t4,vdT,oD,gdT,if_pos hl,if_true,Bool.true_and]
  refine(show j8 Tryz.prog E w0 E3 [boD (List.zipWith V3 a.locals b.locals), .bool false] T _ from(b1K (by rw[List.length_zipWith];omega)).use ?_)
  by_cases q:false∈List.zipWith V3 a.locals b.locals
  ·simp only[decide_eq_true q,unN,Bool.not_true,vdT,oD,M8,if_true,M4,t3,vdF,gdF,Bool.false_eq_true,if_false]
   rw[decide_eq_false (fun h=>h q),Bool.false_and]
   exact d9.less l1 (d9.here ⟨rfl,rfl⟩)
  ·simp only[decide_eq_false q,unN,Bool.not_false,vdT,oD,M8,if_true,M4,t4,gdT]
   refine(show j8 Tryz.prog E w0 E3 [boD (List.zipWith V3 a.stack b.stack), .bool false] T _ from(b1K (by rw[List.length_zipWith];omega)).use ?_)
   simp only[unN,vdT,oD,M8,if_true]
   refine d9.less l1 (d9.here ⟨?_,rfl⟩)
   rw[decide_eq_true q,Bool.true_and]
   by_cases q2:false∈List.zipWith V3 a.stack b.stack<;>simp[q2]
def d6x(f g:Fr):D:= .agg (H9 f++H9 g)
theorem d2U{S:b8}:j8 Tryz.prog E w0 O0 [] S fun v T=>d9 E (fun d _=>d= .bool true) v T:=c9H.use (d9.here rfl)
theorem b5V{m:Mo}(hm:m.Ok){fn at':Int}(hfn:I64 fn){f g:Fr}(hfl:f.locals.length<2^47)(hfs:f.stack.length<2^47)(hf:∀n∈f.locals++f.stack,I64 n){S:b8}:j8 Tryz.prog E w0 a3V [moD m, .int .i64 fn, .int .i64 at',d6x f g] S fun d _=>d= .bool true:=by
 refine a8f ?_
 unfold a3M
 refine d4u fun ka a na=> ?_
 have ca:u9 (S.set ka ⟨3,[M3 m],a⟩) ka 3 (M3 m):=u9.new
 generalize (S.set ka ⟨3,[M3 m],a⟩)=T at ca
 rw[d6x,U9,oD]
 intro kb b nb
 have ca:=ca.set (o:=⟨4,[H9 f++H9 g],b⟩) nb
 have cb:u9 (T.set kb ⟨4,[H9 f++H9 g],b⟩) kb 4 (H9 f++H9 g):=u9.new
 rw[show(H9 f++H9 g).length=4 from rfl]
 generalize (T.set kb ⟨4,[H9 f++H9 g],b⟩)=T at ca cb
 have i0:b4S 2 2 (.ptr kb 0) (.int .i64 0)=some (.ptr kb 0):=rfl
 have i1:b4S 2 2 (.ptr kb 0) (.int .i64 1)=some (.ptr kb 2):=rfl
 rw[i0,oD,show i5 T 2 (.ptr kb 0)=some (frD f) from cb.la ⟨by decide,by simp[H9]⟩,oD]
 intro kc c nc
 refine(u9.new (sz:=2) (c:=[.nilSlc, .nilSlc])).st (ds:=H9 f) (U9 _) ⟨rfl,by decide,by decide⟩ fun c2=> ?_
 rw[b8.set_set,show l7 [D.nilSlc, .nilSlc] 0 (H9 f)=H9 f from rfl]
 have ca:=ca.set (o:=⟨2,[H9 f],c2⟩) nc
 have cb:=cb.set (o:=⟨2,[H9 f],c2⟩) nc
 have cc:u9 (T.set kc ⟨2,[H9 f],c2⟩) kc 2 (H9 f):=u9.new
 generalize (T.set kc ⟨2,[H9 f],c2⟩)=T at ca cb cc
 have qm:∀ {T:b8},u9 T ka 3 (M3 m)→i5 T 3 (.ptr ka 0)=some (moD m):=fun h=>h.all (by decide) rfl
 have qf:∀ {T:b8},u9 T kc 2 (H9 f)→i5 T 2 (.ptr kc 0)=some (frD f):=fun h=>h.all (by decide) rfl
 have qg:∀ {T:b8},u9 T kb 4 (H9 f++H9 g)→i5 T 2 (.ptr kb 2)=some (frD g):=fun h=>h.la ⟨by decide,by simp[H9]⟩
 rw[qm ca,oD,qf cc,oD]
 refine(b2F hm (f:=f)).use ?_
 rintro d S' ⟨rfl,bl,rfl,hb⟩
 cases bl with
 |true=>
  simp only[M4,t1,vdF,gdF,oD,M8,if_true,cdT]
  exact d2U
 |false=>
 simp only[M4,t2,vdT,qm ca,i1,qg cb,oD,gdT]
 refine(b2F hm (f:=g)).use ?_
 rintro d S' ⟨rfl,bl,rfl,hb'⟩
 cases bl with
 |true=>
  simp only[M8,Bool.false_eq_true,if_false,oD,cdT]
  exact d2U
 |false=>
 obtain⟨hsm,hfl,hfs⟩:=hb rfl
 have fm:=Mo.Small.fits hm hsm (by decide)
 simp only[M8,Bool.false_eq_true,if_false,oD,cdF,qf cc,qg cb]
 refine(show j8 Tryz.prog E w0 a2r [frD f,frD g] _ _ from(d4w (by omega) (by omega)).use ?_)
 simp only[exD,List.getElem?_cons_zero,List.getElem?_cons_succ,oD]
 intro kd d nd
 refine(u9.new (sz:=2) (c:=[.nilSlc, .nilSlc])).st (ds:=H9 (if okF f g=true then a7o f g else fr0)) (U9 _) ⟨rfl,by decide,by decide⟩ fun d2=> ?_
 rw[b8.set_set,show l7 [D.nilSlc, .nilSlc] 0 (H9 (if okF f g=true then a7o f g else fr0))=H9 (if okF f g=true then a7o f g else fr0) from rfl]
 have ca:=ca.set (o:=⟨2,[H9 (if okF f g=true then a7o f g else fr0)],d2⟩) nd
 have cc:=cc.set (o:=⟨2,[H9 (if okF f g=true then a7o f g else fr0)],d2⟩) nd
 have cd:u9 (S'.set kd ⟨2,[H9 (if okF f g=true then a7o f g else fr0)],d2⟩) kd 2 (H9 (if okF f g=true then a7o f g else fr0)):=u9.new
 generalize (S'.set kd ⟨2,[H9 (if okF f g=true then a7o f g else fr0)],d2⟩)=T at ca cc cd
 cases ho:okF f g with
 |false=>
  rw[unN,oD,Bool.not_false,cdT]
  exact d2U
 |true=>
 rw[ho,if_pos rfl]at cd
 rw[unN,oD,Bool.not_true,cdF,qm ca,oD,cd.all (n:=2) (by decide) rfl,oD]
 have hl1:f.locals.length=g.locals.length:=by unfold okF at ho;simp at ho;exact ho.1
 have hl2:f.stack.length=g.stack.length:=by unfold okF at ho;simp at ho;exact ho.2
 have hbel:c7p f (a7o f g):=⟨b9o hl1,b9o hl2⟩
 have hzl:(a7o f g).locals.length=f.locals.length:=hbel.1.len.symm
 have hzs:(a7o f g).stack.length=f.stack.length:=hbel.2.len.symm
 have hzi:∀n∈(a7o f g).locals++(a7o f g).stack,I64 n:=fun n hn=>by
  rcases List.mem_append.1 hn with hn|hn
  ·exact c7s (fun q hq=>hf q (List.mem_append.2 (.inl hq))) n hn
  ·exact c7s (fun q hq=>hf q (List.mem_append.2 (.inr hq))) n hn
 refine(show j8 Tryz.prog E w0 I0 [moD m, .int .i64 fn, .int .i64 at',frD (a7o f g)] _ _ from(a4d fm hfn ⟨by omega,by omega,hzi⟩).use ?_)
 unfold b6R
 simp only[exD,List.getElem?_cons_zero,List.getElem?_cons_succ,oD,qm ca,qf cc]
 refine(show j8 Tryz.prog E w0 I0 [moD m, .int .i64 fn, .int .i64 at',frD f] _ _ from(a4d fm hfn ⟨by omega,by omega,hf⟩).use ?_)
 unfold b6R
 simp only[exD,List.getElem?_cons_zero,List.getElem?_cons_succ,oD,a3s]
 rw[I6]
 refine⟨fun _=>d2U,fun h0=> ?_⟩
 rw[Q2,oD,I6]
 refine⟨fun _=>d2U,fun h2=> ?_⟩
 obtain⟨e1,e2⟩:=d0H hbel (by omega) h2
 have hfew:=d2u (m:=m) (fn:=fn) (at':=at') (f:=a7o f g) (by omega)
 have hll:=d2I (m:=m) (fn:=fn) (at':=at') (f:=a7o f g) (by omega)
 generalize (W3 m fn at' f)=hi at*
 generalize (W3 m fn at' (a7o f g))=lo at*
 have hln:∀l,m9 (c0P l)=some (.int .i64 l.length):=fun l=>by simp[c0P]
 have hlen:=e2.len
 simp only[decide_eq_false (show ¬(hi.2≠0) from fun h=>h e1),M4,t2,vdT,oD,hln,a3s,decide_eq_false (show ¬((hi.1.length:Int)≠(lo.1.length:Int)) from fun h=>h (by rw[hlen])),M8,Bool.false_eq_true,if_false,cdF]
 refine a6b (I:=fun n x12 x14 x16 T=>x12=c0P lo.1∧x14=c0P hi.1∧∃i:Nat,x16= .int .i64 (i:Int)∧i+n=lo.1.length) ?_ (n:=lo.1.length) ⟨rfl,rfl,0,rfl,by omega⟩
 rintro n _ _ _ T2 ⟨rfl,rfl,i,rfl,hi2⟩
 unfold Y1
 rw[hln,oD,H7,oD,I6]
 refine⟨fun hlt=> ?_,fun _=>d2U⟩
 have hlt':i<lo.1.length:=by omega
 have ex:hi.1[i]? =some hi.1[i]:=List.getElem?_eq_getElem (by omega)
 have ey:lo.1[i]? =some lo.1[i]:=List.getElem?_eq_getElem hlt'
 have hbe:=e2.at ex ey
 have hfr:=hll lo.1[i] (List.getElem_mem _)
 generalize hi.1[i]=x at ex hbe
 generalize lo.1[i]=y at ey hbe hfr
 obtain⟨b1,b2⟩:=hbe
 have hx:o6 3 (c0P hi.1) (.int .i64 (i:Int))=some (.elt (edR x) 0):=b1X (by rw[List.getElem?_map,ex];rfl)
 have hy:o6 3 (c0P lo.1) (.int .i64 (i:Int))=some (.elt (edR y) 0):=b1X (by rw[List.getElem?_map,ey];rfl)
 have x0:(edR x)[0]? =some (.int .i64 x.1):=rfl
 have y0:(edR y)[0]? =some (.int .i64 y.1):=rfl
 have lx:∀S:b8,i5 S 2 (.elt (edR x) 1)=some (frD x.2):=fun S=>by rw[laE,if_pos ⟨by decide,by simp[edR]⟩];rfl
 have ly:∀S:b8,i5 S 2 (.elt (edR y) 1)=some (frD y.2):=fun S=>by rw[laE,if_pos ⟨by decide,by simp[edR]⟩];rfl
 simp only[hx,hy,oD,ofE,Nat.zero_add,lsE,x0,y0,a3s,decide_eq_false (show ¬(x.1≠y.1) from fun h=>h b1),M4,t2,vdT,lx,ly,gdT]
 refine(show j8 Tryz.prog E w0 a2s [frD x.2,frD y.2] _ _ from(d3O (by rw[b2.1.len];omega) (by rw[b2.2.len];omega)).use ?_)
 rw[d3e b2,unN,oD,Bool.not_true,M8,if_neg (by decide),oD,cdF,D7,oD,l8 (by omega) (by omega)]
 exact⟨n - 1,by omega,by trivial,by trivial,i+1,by simp,by omega⟩
end
end
end Go.Proofs.YtdkidgkiplcggaaGreat.d
end
section
namespace Go.Am
open Go.ChangeShapes Go.WideShapes Go.ChangeAt Go.RowKit
def a3o:Value→AV
 | .slice (some a) len cap=>if len≤cap∧(cap=0∨a.spot=none) then .slc (.old a.block) a.off len cap true 1 else .opq (.slice (some a) len cap)
 | .pointer (some a)=>if a.spot=none then .ptr (.old a.block) a.off else .opq (.pointer (some a))
 |v=>b8w v
def c0p:Value→AV
 | .agg cs=> .agg (cs.toList.map a3o)
 |v=>a3o v
theorem c8I(ρ:B2)(v:Value):rel ρ (a3o v) v:=by
 unfold a3o
 split
 ·rename_i a len cap
  split
  ·rename_i h
   simp only[rel,J1,b8T]
   refine⟨a,cap,rfl,h.1,Nat.le_refl _,fun _=>rfl, ?_,trivial⟩
   rcases h.2 with e|e
   ·exact .inl e
   ·right
    refine⟨a.block,0,rfl, ?_⟩
    obtain⟨b,o,s⟩:=a
    simp only at e
    subst e
    simp
  ·simp only[rel]
 ·rename_i a
  split
  ·rename_i e
   simp only[rel,J1]
   refine⟨a.block,0,rfl, ?_⟩
   obtain⟨b,o,s⟩:=a
   simp only at e
   subst e
   simp
  ·simp only[rel]
 ·exact b5F _
theorem b8R(ρ:B2):∀l:List Value,s8 ρ (l.map a3o) l
 | []=>r8.2 rfl
 |v::l=>o9.2 ⟨c8I ρ v,b8R ρ l⟩
theorem d4E(ρ:B2)(v:Value):rel ρ (c0p v) v:=by
 unfold c0p
 split
 ·simp only[rel]
  exact⟨_,rfl,b8R ρ _⟩
 ·exact c8I ρ _
theorem c5o(ρ:B2):∀l:List Value,s8 ρ (l.map c0p) l
 | []=>r8.2 rfl
 |v::l=>o9.2 ⟨d4E ρ v,c5o ρ l⟩
def a2l(W:World):j2:=fun b=>match W.heap[b]? with
 |some (.cells arr _ _)=>some (arr.toList.map a3o)
 |_=>none
theorem d3F(W:World)(b:Nat)(cs:List AV)(h:a2l W b=some cs):b<W.heap.size∧∃arr el fr,W.heap[b]? =some (.cells arr el fr)∧s8 (fun _=>none) cs arr.toList:=by
 unfold a2l at h
 split at h
 ·rename_i arr el fr e
  cases h
  exact⟨(Array.getElem?_eq_some_iff.1 e).1,arr,el,fr,e,b8R _ _⟩
 ·cases h
theorem d2V{P:Program}{f:FuncId}{W:World}{vargs:Array Value}(h:FnW P (a2l W) (d4O W) f (vargs.toList.map c0p) AHeap.empty fun v _=>v= .bool true):
  Calls P f vargs W fun e w=>e= .returned (.bool true)∧b9Z W w:=
 c7r h (d3F W) (c5o _ _)
theorem b9Z.same{W W':World}(h:b9Z W W'){p:MemPlace}(hp:p.block<W.heap.size):W.sameAt W' p:=by
 cases p with
 |cell b off=>
  show W'.cell? ⟨b,off,none⟩=W.cell? ⟨b,off,none⟩
  unfold World.cell?
  rw[h.2.2 b hp]
 |map b=>
  show W'.heap[b]? =W.heap[b]?
  exact h.2.2 b hp
theorem b4C{H:Type}{enc:TypeId×Value→H}{P:Program}(hl:laidOutB P=true){W W':World}{sp:Nat→Bool}:∀ {ts:List TypeId} {vs:List Value} {ds:List (DataW H)} {ps:List MemPlace},(∀t∈ts,P.readableRec t=true∧t<P.types.size)→
  DataW.TrodAll enc P W 0 (fun _=>true) true ts vs ds ps→(∀p∈ps,W.sameAt W' p)→(∀p∈ps,sp p.block=true)→DataW.TrodAll enc P W' 0 sp true ts vs ds ps
 | [],[],[],ps,_,h,_,_=>h
 |t::ts,v::vs,d::ds,ps,ht,h,hs,hp=>by
  obtain⟨p,q,h1,h2,rfl⟩:=h
  refine⟨p,q,WideElems.Trod_stays hl (ht t List.mem_cons_self).1 (ht t List.mem_cons_self).2 h1 (fun x hx=>hs x (List.mem_append_left _ hx)) (fun x hx=>hp x (List.mem_append_left _ hx)), ?_,rfl⟩
  exact b4C hl (fun t ht'=>ht t (List.mem_cons_of_mem _ ht')) h2 (fun x hx=>hs x (List.mem_append_right _ hx)) (fun x hx=>hp x (List.mem_append_right _ hx))
theorem c8x{H:Type}{enc:TypeId×Value→H}{P:Program}{f:Func}{s:ChangeSpec}{apart fresh handsOn again:Bool}{W W':World}{args:Array Value}{ds gs:List (DataW H)}{before:List MemPlace}{b:TypeId}
  (hW:DataW.Whole enc P f.params.toList s.vars apart W args.toList ds gs before) (hvars:s.vars=[]) (hl:laidOutB P=true) (hts:∀t∈f.params.toList,P.readableRec t=true∧t<P.types.size)
  (hb:P.underlying b=some .bool) (hrt:f.resultTypes= #[b])
  (hres:(s.fn H ds).results=[.lit (.bool true)]) (hargs:(s.fn H ds).args=ds) (hvs:(s.fn H ds).vars=[]) (hk:b9Z W W'):
  s.post enc P f apart fresh handsOn again W args (.bool true) W':=by
 have hW':=hW
 obtain⟨p,q,hA,hV,rfl,_,_⟩:=hW
 rw[hvars]at hV
 obtain⟨rfl,rfl⟩:=trodVars_none hV
 have hlt:∀x∈p,x.block<W.heap.size:=fun x hx=>hW'.lt x (by simpa using hx)
 refine c7m (pa:=p) (pv:=[]) hW' ?_ ?_ ?_ rfl hk ?_
 ·intro b0 sp hd
  rw[List.append_nil,hres,hrt]
  exact trodAll_cons_mk (shut_bool hb _) trodAll_mk0
 ·intro sp hsp
  rw[List.append_nil,hargs]
  exact b4C hl hts hA (fun x hx=>hk.same (hlt x hx)) (fun x hx=>hsp x (by simpa using hx))
 ·intro sp _
  rw[hvars,List.append_nil,hvs]
  rfl
 ·intro j t r h1 h2
  rw[hrt]at h1 h2
  match j,h1,h2 with
  |0,h1,h2=>
   simp[Value.resultList]at h1 h2
   subst h1 h2
   exact okWide_bool_mk hb _
theorem a5O{w:World}{a:Addr}{v:Value}(h:w.cell? a=some v):a.spot=none∧∃arr el fr,w.heap[a.block]? =some (.cells arr el fr)∧arr[a.off]? =some v:=by
 unfold World.cell? at h
 split at h
 ·rename_i c el fr hb
  split at h
  ·cases h
  ·rename_i hns
   exact⟨by cases hs:a.spot with
    |none=>rfl
    |some x=>rw[hs]at hns;exact(hns rfl).elim,c,el,fr,hb,h⟩
 ·cases h
end Go.Am
end
section
open Go Go.Am
namespace Go.Am.Old
open Go.ChangeShapes Go.WideShapes Go.ChangeAt Go.RowKit
section
variable{H:Type}{enc:TypeId×Value→H}{P:Program}{W:World}{b0:Nat}{sp:Nat→Bool}{hd:Bool}
theorem d4S{n:Nat}{t:TypeId}{k:IntKind}{cs:List Value}{x:DataW H×List MemPlace}(ht:P.underlying t=some (.int k))(h:DataW.trod enc P W b0 sp hd n t cs=some x):∃z,cs=[.int k z]∧(Lit.int k z).wf=true:=by
 cases n with
 |zero=>simp[DataW.trod]at h
 |succ n=>
  simp only[DataW.trod,ht]at h
  split at h
  all_goals (first|(cases h;done)|skip)
  all_goals simp_all
  all_goals (first|(obtain⟨⟨rfl,h2⟩,_⟩:=h;exact⟨_,⟨rfl,rfl⟩,h2⟩)|skip)
end
theorem c8T{α β:Type}{f:α→Option β}:∀ {l:List α} {r:List β},l.mapM f=some r→∀(i:Nat) (x:α),l[i]? =some x→∃y,r[i]? =some y∧f x=some y
 | [],r,h,i,x,hx=>by simp at hx
 |a::l,r,h,i,x,hx=>by
  simp only[List.mapM_cons,Option.bind_eq_bind,Option.bind_eq_some_iff]at h
  obtain⟨b,hb,bs,hbs,h⟩:=h
  cases h
  cases i with
  |zero=>simp at hx;subst hx;exact⟨b,rfl,hb⟩
  |succ i=>
   have hx':l[i]? =some x:=by simpa using hx
   obtain⟨y,h1,h2⟩:=c8T hbs i x hx'
   exact⟨y,by simpa using h1,h2⟩
theorem b9V{α β:Type}{f:α→Option β}:∀ {l:List α} {r:List β},l.mapM f=some r→r.length=l.length
 | [],r,h=>by simp at h;subst h;rfl
 |a::l,r,h=>by
  simp only[List.mapM_cons,Option.bind_eq_bind,Option.bind_eq_some_iff]at h
  obtain⟨b,hb,bs,hbs,h⟩:=h
  cases h
  simp[b9V hbs]
theorem b1O{H:Type}{P:Program}{e:TypeId}:∀ {l:List (DataW H)} {d:DataW H},d∈l→∀n∈DataW.weights P e d,n∈DataW.weightsAll P e l
 |a::l,d,h,n,hn=>by
  simp only[DataW.weightsAll]
  rcases List.mem_cons.1 h with rfl|h
  ·exact List.mem_append_left _ hn
  ·exact List.mem_append_right _ (b1O h n hn)
theorem c8s{H:Type}{enc:TypeId×Value→H}{P:Program}{W:World}{hd:Bool}{n:Nat}{t e:TypeId}{sz:Nat}{cs:List Value}{x:DataW H×List MemPlace}(ht:P.underlying t=some (.slice e))(hc:P.cellsOf e=sz)(hsz:0<sz)
  (h:DataW.trod enc P W 0 (fun _=>true) hd n t cs=some x):∃c,cs=[c]∧((a3o c= .nilSlc)∨∃(b i len cap m:Nat) (els:List (DataW H×List MemPlace)),a3o c= .slc (.old b) i len cap true 1∧len≤cap∧els.length=len∧(∀d∈els,∀k∈DataW.weights P e d.1,k∈DataW.weights P t x.1)∧
   (∀k:Nat,len*P.bytesOf e≤k∨k∈DataW.weights P t x.1∨True)∧(∃k∈DataW.weights P t x.1,len*P.bytesOf e≤k)∧
   ∀j d,els[j]? =some d→∃(all:List AV) (vs:List Value),a2l W b=some all∧(all.drop (i+j*sz)).take sz=vs.map a3o∧DataW.trod enc P W 0 (fun _=>true) hd m e vs=some d):=by
 rcases DataW.trod_slice ht h with ⟨e1,_⟩|⟨a,len,cap,elems,rest,m,_,e1,hx,_,hl,hm,hlen,hel,hsp,_⟩
 ·exact⟨_,e1, .inl rfl⟩
 ·refine⟨_,e1, .inr ?_⟩
  have hd':x.1= .slice (elems.map (·.1)) (rest.map (·.1)):=by rw[hx]
  have hcell:∀ {c:Addr} {cs:List Value},W.cells? 0 c sz=some cs→cs.length=sz∧∀j,j<sz→∃x,cs[j]? =some x∧W.cell? (c.add j)=some x:=by
   intro c cs hc
   unfold World.cells? at hc
   rw[if_pos (Nat.zero_le _)]at hc
   refine⟨by have:=b9V hc;simpa using this,fun j hj=> ?_⟩
   obtain⟨y,h1,h2⟩:=c8T hc j j (by rw[List.getElem?_range hj])
   exact⟨y,h1,h2⟩
  have hs:cap=0∨a.spot=none:=by
   by_cases h0:cap=0
   ·exact .inl h0
   ·right
    by_cases hl0:len=0
    ·obtain⟨r1,r2⟩:=hsp rfl
     have:=r2 0 (by omega)
     rw[hc,hl0,List.getElem?_eq_getElem (by omega)]at this
     obtain⟨cs,h1,_⟩:=Option.bind_eq_some_iff.1 this
     obtain⟨x,_,h2⟩:=(hcell h1).2 0 hsz
     simp only[Nat.add_zero,Nat.zero_mul]at h2
     exact(a5O h2).1
    ·have:=hel 0 (by omega)
     rw[hc,List.getElem?_eq_getElem (by omega)]at this
     obtain⟨cs,h1,_⟩:=Option.bind_eq_some_iff.1 this
     obtain⟨x,_,h2⟩:=(hcell h1).2 0 hsz
     simp only[Nat.add_zero,Nat.zero_mul]at h2
     exact(a5O h2).1
  refine⟨a.block,a.off,len,cap,m,elems, ?_,by omega,hlen, ?_,fun _=> .inr (.inr trivial),⟨(elems.length+rest.length)*P.bytesOf e, ?_, ?_⟩, ?_⟩
  ·simp only[a3o]
   rw[if_pos ⟨hl,hs⟩]
  ·intro d hdm k hk
   rw[hd']
   simp only[DataW.weights,ht]
   exact List.mem_cons_of_mem _ (List.mem_append_left _ (b1O (d:=d.1) (List.mem_map.2 ⟨d,hdm,rfl⟩) k hk))
  ·rw[hd'];simp[DataW.weights,ht]
  ·rw[hlen];exact Nat.mul_le_mul_right _ (by omega)
  ·intro i d hid
   have hi:i<len:=by have:=(List.getElem?_eq_some_iff.1 hid).1;omega
   have hi':=hel i hi
   rw[hc,hid]at hi'
   obtain⟨cs,h1,h2⟩:=Option.bind_eq_some_iff.1 hi'
   obtain⟨c1,c2⟩:=hcell h1
   have hs':a.spot=none:=hs.resolve_left (by omega)
   have hadd:∀j,(a.add (i*sz)).add j=⟨a.block,a.off+i*sz+j,none⟩:=by
    intro j
    obtain⟨b,of,s⟩:=a
    simp only at hs'
    subst hs'
    unfold Addr.add
    split<;>split<;>simp_all
   obtain⟨x0,_,hx0⟩:=c2 0 hsz
   rw[hadd]at hx0
   obtain⟨_,arr,el,fr,hb,_⟩:=a5O hx0
   simp only at hb
   refine⟨arr.toList.map a3o,cs,by unfold a2l;rw[hb], ?_,h2⟩
   refine List.ext_getElem? fun j=> ?_
   rw[List.getElem?_take]
   split
   ·rename_i hj
    obtain⟨xj,hj1,hj2⟩:=c2 j hj
    rw[hadd]at hj2
    obtain⟨_,arr',el',fr',hb',hj3⟩:=a5O hj2
    simp only at hb' hj3
    rw[hb]at hb'
    cases hb'
    rw[List.getElem?_drop,List.getElem?_map,Array.getElem?_toList,hj3,List.getElem?_map,hj1]
   ·rename_i hj
    rw[List.getElem?_map,List.getElem?_eq_none (by omega)]
    rfl
theorem d7z{z:Int}(h:(Lit.int .i64 z).wf=true): -9223372036854775808≤z∧z≤9223372036854775807:=by
 simp only[Lit.wf,Bool.and_eq_true,decide_eq_true_eq]at h
 have h1:IntKind.i64.min= -9223372036854775808:=rfl
 have h2:IntKind.i64.max=9223372036854775807:=rfl
 omega
theorem d8c{z:Int}(h:(Lit.int .u8 z).wf=true):0≤z∧z≤255:=by
 simp only[Lit.wf,Bool.and_eq_true,decide_eq_true_eq]at h
 have h1:IntKind.u8.min=0:=rfl
 have h2:IntKind.u8.max=255:=rfl
 omega
section
variable{H:Type}{enc:TypeId×Value→H}{P:Program}{W:World}{hd:Bool}
theorem d3X{α:Type}[Inhabited α]{row:α→List D}{a5I:α→Prop}{n:Nat}{t e:TypeId}{sz:Nat}{cs:List Value}{x:DataW H×List MemPlace}(ht:P.underlying t=some (.slice e))(hc:P.cellsOf e=sz)(hsz:0<sz)(hrow:∀a,(row a).length=sz)
  (h:DataW.trod enc P W 0 (fun _=>true) hd n t cs=some x)
  (f:∀m vs d,DataW.trod enc P W 0 (fun _=>true) hd m e vs=some d→(∀k∈DataW.weights P e d.1,k∈DataW.weights P t x.1)→∃a,a5I a∧(∀R,A7 (a2l W) R (row a) (vs.map a3o))∧(vs.map a3o).all s0=true):
  ∃c l,cs=[c]∧(∀a∈l,a5I a)∧(∀R,Rp (a2l W) R (.lst (l.map row) sz) (a3o c))∧s0 (a3o c)=true∧(l=[]∨∃k∈DataW.weights P t x.1,l.length*P.bytesOf e≤k):=by
 obtain⟨c,e0,h1|⟨b,i,len,cap,m,els,h1,hlc,h2,h3,_,hk,h6⟩⟩:=c8s ht hc hsz h
 ·exact⟨c,[],e0,by simp,fun R=>by rw[h1];simp only[Rp];exact .inl ⟨by trivial,by trivial⟩,by rw[h1];rfl, .inl rfl⟩
 ·have each:∀j,∃a:α,j<len→a5I a∧∃all,a2l W b=some all∧(∀R,A7 (a2l W) R (row a) ((all.drop (i+j*sz)).take sz))∧((all.drop (i+j*sz)).take sz).all s0=true:=by
   intro j
   by_cases hj:j<len
   ·obtain⟨all,vs,g1,g2,g3⟩:=h6 j _ (List.getElem?_eq_getElem (by omega:j<els.length))
    obtain⟨a,q1,q2,q3⟩:=f m vs _ g3 (h3 _ (List.getElem_mem _))
    exact⟨a,fun _=>⟨q1,all,g1,by rw[g2];exact q2,by rw[g2];exact q3⟩⟩
   ·exact⟨default,fun h=>(hj h).elim⟩
  obtain⟨g,hg⟩:=Classical.axiomOfChoice each
  have main:∀(all:List AV),a2l W b=some all→∀N,N≤len→(∀R,a2e (a2l W) R (((List.range N).map g).map row) ((all.drop i).take (N*sz)))∧((all.drop i).take (N*sz)).all s0=true:=by
   intro all hall N
   induction N with
   |zero=>intro _;exact⟨fun R=>by simp[a2e],by simp⟩
   |succ N ih=>
    intro hN
    obtain⟨i1,i2⟩:=ih (by omega)
    obtain⟨_,all',g1,g2,g3⟩:=hg N (by omega)
    rw[hall]at g1
    cases g1
    have e1:(all.drop i).take ((N+1)*sz)=(all.drop i).take (N*sz)++(all.drop (i+N*sz)).take sz:=by
     rw[Nat.succ_mul,List.take_add,List.drop_drop]
    rw[e1]
    refine⟨fun R=> ?_,by rw[List.all_append,i2,g3];rfl⟩
    rw[List.range_succ,List.map_append,List.map_append,I4,List.flatten_append]
    refine(I4.1 (i1 R)).append ?_
    simpa using g2 R
  refine⟨c,(List.range len).map g,e0,fun a ha=> ?_,fun R=> ?_,by rw[h1];rfl, .inr ?_⟩
  ·obtain⟨j,hj,rfl⟩:=List.mem_map.1 ha
   exact(hg j (List.mem_range.1 hj)).1
  ·rw[h1]
   simp only[Rp]
   refine .inr ⟨.old b,i,cap,true,1,by simp,trivial,by simpa using hlc, ?_, ?_⟩
   ·intro r hr
    obtain⟨a,_,rfl⟩:=List.mem_map.1 hr
    exact hrow a
   ·by_cases h0:len=0
    ·left;subst h0;rfl
    ·right
     obtain⟨_,all,g1,_⟩:=hg 0 (by omega)
     obtain⟨m1,m2⟩:=main all g1 len (Nat.le_refl _)
     exact⟨all,g1,by simpa using m1 R,by simpa using m2⟩
  ·obtain⟨k,hk1,hk2⟩:=hk
   exact⟨k,hk1,by simpa using hk2⟩
end
section
variable{H:Type}{enc:TypeId×Value→H}{P:Program}{W:World}{hd:Bool}
theorem d7y{n:Nat}{t:TypeId}{k:IntKind}{cs:List Value}{x:DataW H×List MemPlace}(ht:P.underlying t=some (.int k))(h:DataW.trod enc P W 0 (fun _=>true) hd n t cs=some x):
  ∃z:Int,(Lit.int k z).wf=true∧(∀R,A7 (a2l W) R [.int k z] (cs.map a3o))∧(cs.map a3o).all s0=true:=by
 obtain⟨z,rfl,w⟩:=d4S ht h
 refine⟨z,w,fun R=> ?_,rfl⟩
 simp only[List.map_cons,List.map_nil,A7,Rp]
 exact⟨_,_,rfl,rfl,rfl⟩
end
section
variable{H:Type}{enc:TypeId×Value→H}{P:Program}{W:World}{hd:Bool}
end
end Go.Am.Old
end
section
open Go Go.Am
namespace Go.Am.Old
open Go.ChangeShapes Go.WideShapes Go.ChangeAt Go.RowKit
def Rd{H:Type}(enc:TypeId×Value→H)(P:Program)(W:World)(t:TypeId){α:Type}(row:α→List D)(a5I:α→Prop):Prop:=
 ∀(hd:Bool) (n:Nat) (cs:List Value) (x:DataW H×List MemPlace),DataW.trod enc P W 0 (fun _=>true) hd n t cs=some x→(∀k∈DataW.weights P t x.1,k≤reachBytes)→
  ∃a,a5I a∧(∀R,A7 (a2l W) R (row a) (cs.map a3o))∧(cs.map a3o).all s0=true
def c7F(P:Program):List Field→Nat
 | []=>0
 |f::fs=>P.cellsOf f.type+c7F P fs
def RdF{H:Type}(enc:TypeId×Value→H)(P:Program)(W:World)(fs:List Field)(o:Nat){α:Type}(row:α→List D)(a5I:α→Prop):Prop:=
 ∀(hd:Bool) (n:Nat) (cs:List Value) (ys:List (DataW H×List MemPlace)),(fs.mapM fun f=>DataW.trod enc P W 0 (fun _=>true) hd n f.type ((cs.drop f.offset).take (P.cellsOf f.type)))=some ys→
  (∀k∈DataW.weightsEach P (fs.map (·.type)) (ys.map (·.1)),k≤reachBytes)→
  ∃a,a5I a∧(∀R,A7 (a2l W) R (row a) (((cs.drop o).take (c7F P fs)).map a3o))∧(((cs.drop o).take (c7F P fs)).map a3o).all s0=true
section
variable{H:Type}{enc:TypeId×Value→H}{P:Program}{W:World}
theorem Rd.map{t:TypeId}{α β:Type}{row:α→List D}{a5I:α→Prop}{row':β→List D}{Good':β→Prop}(h:Rd enc P W t row a5I)(g:α→β)(hr:∀a,row' (g a)=row a)(hg:∀a,a5I a→Good' (g a)):Rd enc P W t row' Good':=fun hd n cs x h1 h2=>by
 obtain⟨a,a1,a2,a3⟩:=h hd n cs x h1 h2
 exact⟨g a,hg a a1,fun R=>by rw[hr];exact a2 R,a3⟩
theorem Rd.int{t:TypeId}{k:IntKind}(ht:P.underlying t=some (.int k)):Rd enc P W t (fun z:Int=>[.int k z]) (fun z=>(Lit.int k z).wf=true):=fun hd n cs x h _=>d7y ht h
theorem Rd.i64{t:TypeId}(ht:P.underlying t=some (.int .i64)):Rd enc P W t (fun z:Int=>[.int .i64 z]) (fun z=> -9223372036854775808≤z∧z≤9223372036854775807):=(Rd.int ht).map id (fun _=>rfl) fun _ h=>d7z h
theorem Rd.u8{t:TypeId}(ht:P.underlying t=some (.int .u8)):Rd enc P W t (fun z:Int=>[.int .u8 z]) (fun z=>0≤z∧z≤255):=(Rd.int ht).map id (fun _=>rfl) fun _ h=>d8c h
theorem Rd.bool{t:TypeId}(ht:P.underlying t=some .bool):Rd enc P W t (fun b:Bool=>[.bool b]) (fun _=>True):=fun hd n cs x h _=>by
 cases n with
 |zero=>simp[DataW.trod]at h
 |succ n=>
  simp only[DataW.trod,ht]at h
  split at h
  all_goals (first|(cases h;done)|skip)
  all_goals simp_all
  rename_i b
  have:∃b':Bool,(∀R,A7 (a2l W) R [D.bool b'] [a3o (Value.bool b)]):=⟨b,fun R=>by simp only[A7,Rp];exact⟨_,_,rfl,rfl,rfl⟩⟩
  obtain⟨b',hb⟩:=this
  refine⟨?_,rfl⟩
  cases b'
  ·exact .inl hb
  ·exact .inr hb
theorem Rd.str{t:TypeId}(ht:P.underlying t=some .string):Rd enc P W t (fun s:List UInt8=>[.str s]) (fun s=>s.length<2^47):=fun hd n cs x h hw=>by
 cases n with
 |zero=>simp[DataW.trod]at h
 |succ n=>
  simp only[DataW.trod,ht]at h
  split at h
  all_goals (first|(cases h;done)|skip)
  all_goals simp_all
  rename_i s
  obtain⟨h1,rfl⟩:=h
  have:=reachBytes_lt
  refine⟨s.data.toList, ?_,fun R=> ?_,rfl⟩
  ·have:=hw s.data.toList.length (by simp[DataW.weights])
   omega
  simp only[A7,Rp]
  exact⟨_,_,rfl,rfl,rfl⟩
theorem Rd.slice{t e:TypeId}{sz b:Nat}{α:Type}[Inhabited α]{row:α→List D}{a5I:α→Prop}(ht:P.underlying t=some (.slice e))(hc:P.cellsOf e=sz)(hsz:0<sz)(hb:P.bytesOf e=b)(hrow:∀a,(row a).length=sz)(h:Rd enc P W e row a5I):
  Rd enc P W t (fun l:List α=>[.lst (l.map row) sz]) (fun l=>l.length*b<2^47∧∀a∈l,a5I a):=fun hd n cs x hx hw=>by
 obtain⟨c,l,rfl,h1,h2,h3,h4⟩:=d3X ht hc hsz hrow hx fun m vs d hd' hk=>h hd m vs d hd' fun k hk'=>hw k (hk k hk')
 have:=reachBytes_lt
 refine⟨l,⟨?_,h1⟩,fun R=> ?_,by simp[h3]⟩
 ·rcases h4 with rfl|⟨k,k1,k2⟩
  ·show 0*b<2^47;omega
  ·have:=hw k k1
   rw[hb]at k2
   omega
 ·simp only[List.map_cons,List.map_nil,A7]
  exact⟨_,_,rfl,h2 R,rfl⟩
theorem RdF.nil{o:Nat}:RdF enc P W [] o (fun _:Unit=>[]) (fun _=>True):=fun hd n cs ys h _=>⟨(),trivial,fun R=>by simp[c7F,A7],by simp[c7F]⟩
theorem RdF.cons{f:Field}{fs:List Field}{o s:Nat}{α β:Type}{row1:α→List D}{G1:α→Prop}{row2:β→List D}{G2:β→Prop}(ho:f.offset=o)(hs:P.cellsOf f.type=s)(h1:Rd enc P W f.type row1 G1)(h2:RdF enc P W fs (o+s) row2 G2):
  RdF enc P W (f::fs) o (fun p:α×β=>row1 p.1++row2 p.2) (fun p=>G1 p.1∧G2 p.2):=fun hd n cs ys h hw=>by
 simp only[List.mapM_cons,Option.bind_eq_bind,Option.bind_eq_some_iff]at h
 obtain⟨y,hy,ys',hys,h⟩:=h
 cases h
 simp only[List.map_cons,DataW.weightsEach,List.mem_append]at hw
 obtain⟨a,a1,a2,a3⟩:=h1 hd n _ y hy fun k hk=>hw k (.inl hk)
 obtain⟨b,b1,b2,b3⟩:=h2 hd n cs ys' hys fun k hk=>hw k (.inr hk)
 rw[ho,hs]at a2 a3
 have e:((cs.drop o).take (c7F P (f::fs))).map a3o=((cs.drop o).take s).map a3o++((cs.drop (o+s)).take (c7F P fs)).map a3o:=by
  rw[c7F,hs,List.take_add,List.map_append,List.drop_drop]
 exact⟨(a,b),⟨a1,b1⟩,fun R=>by rw[e];exact(a2 R).append (b2 R),by rw[e,List.all_append,a3,b3];rfl⟩
theorem Rd.struct{t:TypeId}{fs:Array Field}{α:Type}{row:α→List D}{G:α→Prop}(ht:P.underlying t=some (.struct fs))(hc:P.cellsOf t=c7F P fs.toList)(h:RdF enc P W fs.toList 0 row G):Rd enc P W t row G:=fun hd n cs x hx hw=>by
 cases n with
 |zero=>simp[DataW.trod]at hx
 |succ n=>
  simp only[DataW.trod,ht]at hx
  split at hx
  ·rename_i hl
   simp only[Option.map_eq_some_iff]at hx
   obtain⟨ys,hm,rfl⟩:=hx
   obtain⟨a,a1,a2,a3⟩:=h hd n cs ys hm (by simpa [DataW.weights,ht]using hw)
   rw[List.drop_zero, ←hc, ←hl,List.take_length]at a2 a3
   exact⟨a,a1,a2,a3⟩
  ·cases hx
end
theorem Rd.argA{H:Type}{enc:TypeId×Value→H}{P:Program}{W:World}{t:TypeId}{α:Type}{row:α→List D}{G:α→Prop}(h:Rd enc P W t row G){fs:Array Field}{r:Reach}{b0:Nat}{v:Value}(hv:Value.okWide P W r b0 t v)(ht:P.underlying t=some (.struct fs))
  {d:DataW H} {ps:List MemPlace} (h0:DataW.Trod enc P W 0 (fun _=>true) true t v d ps) (hw:∀k∈DataW.weights P t d,k≤reachBytes):∃a,G a∧∀R,Rp (a2l W) R (.agg (row a)) (c0p v):=by
 obtain⟨n,hn⟩:=h0
 obtain⟨cs,rfl,_⟩:=okWide_struct ht hv
 obtain⟨a,a1,a2,a3⟩:=h true n _ _ hn hw
 refine⟨a,a1,fun R=> ?_⟩
 simp only[c0p,Rp]
 exact⟨_,rfl,a2 R,a3⟩
theorem Rd.arg1{H:Type}{enc:TypeId×Value→H}{P:Program}{W:World}{t:TypeId}{α:Type}{c:α→D}{G:α→Prop}(h:Rd enc P W t (fun a=>[c a]) G){v:Value}(hc:v.cells.toList=[v])(ho:c0p v=a3o v)
  {d:DataW H} {ps:List MemPlace} (h0:DataW.Trod enc P W 0 (fun _=>true) true t v d ps) (hw:∀k∈DataW.weights P t d,k≤reachBytes):∃a,G a∧∀R,Rp (a2l W) R (c a) (c0p v):=by
 obtain⟨n,hn⟩:=h0
 obtain⟨a,a1,a2,a3⟩:=h true n _ _ hn hw
 refine⟨a,a1,fun R=> ?_⟩
 have:=a2 R
 rw[hc,List.map_cons,List.map_nil]at this
 simp only[A7]at this
 obtain⟨x,xs,e,h1,_⟩:=this
 cases e
 rw[ho]
 exact h1
theorem Rd.argI{H:Type}{enc:TypeId×Value→H}{P:Program}{W:World}{t:TypeId}{k:IntKind}{α:Type}{c:α→D}{G:α→Prop}(h:Rd enc P W t (fun a=>[c a]) G){r:Reach}{b0:Nat}{v:Value}(hv:Value.okWide P W r b0 t v)(ht:P.underlying t=some (.int k))
  {d:DataW H} {ps:List MemPlace} (h0:DataW.Trod enc P W 0 (fun _=>true) true t v d ps) (hw:∀k∈DataW.weights P t d,k≤reachBytes):∃a,G a∧∀R,Rp (a2l W) R (c a) (c0p v):=by
 obtain⟨n,rfl⟩:=okWide_int ht hv
 exact h.arg1 rfl rfl h0 hw
theorem c2c:D4 AHeap.empty:=by
 have hg:∀k,AHeap.empty.get k=none:=fun k=>by simp[AHeap.empty,AHeap.get,Trie.get]
 exact⟨fun k _=>hg k,fun k p o op h=>(by rw[hg]at h;cases h),fun k o p h=>(by rw[hg]at h;cases h),fun k o p h=>(by rw[hg]at h;cases h)⟩
theorem d0p(E:j2):z7 E (fun _=>none) b8.none AHeap.empty:=z7.start c2c
theorem d0z{P:Program}{f:FuncId}{W:World}{vs:Array Value}{ds:List D}(h:j8 P (a2l W) (d8f W) f ds b8.none fun v _=>v= .bool true)(ha:A7 (a2l W) (fun _=>none) ds (vs.toList.map c0p)):Calls P f vs W fun e w=>e= .returned (.bool true)∧b9Z W w:=by
 refine d2V (FnW.weak (w:=W) (fun v H ⟨_,_,_,_,_,_,_,hf⟩=>hf.elim) (FnW.mono (h _ AHeap.empty _ c2c (d0p _) ha) fun v H' hq=> ?_))
 obtain⟨_,R',S',d,_,_,h3,rfl⟩:=hq
 simpa only[Rp]using h3
end Go.Am.Old
end
section
open Go.Proofs Go Go.Am Go.Op Go.Am.Old
namespace Go.Proofs.YtdkidgkiplcggaaGreat.d
instance:Inhabited Ty:=⟨⟨0,[],[],0,0⟩⟩
instance:Inhabited Ro:=⟨⟨[],[],[],0,0,[]⟩⟩
section
variable{H:Type}{enc:TypeId×Value→H}{W:World}
abbrev RdP(enc:TypeId×Value→H)(W:World)(t:TypeId){α:Type}(row:α→List D)(a5I:α→Prop):Prop:=Rd enc Tryz.prog W t row a5I
theorem c1l:RdP enc W 27 (fun l:List Int=>[iD l]) (fun l=>l.length<2^47∧∀n∈l,I64 n):=
 (Rd.slice (sz:=1) Tryz.underlying27 (by kernel_rfl) (by decide) (b:=8) (by kernel_rfl) (fun _=>rfl) (Rd.i64 Tryz.underlying3)).map id (fun l=>by simp[iD,iC,B4,Function.comp_def]) fun l h=>⟨by have:=h.1;simp only[id]at*;omega,h.2⟩
theorem d5b:RdP enc W 53 (fun l:List Int=>[bD l]) (fun l=>l.length<2^47∧∀n∈l,a1m n):=
 (Rd.slice (sz:=1) Tryz.underlying53 (by kernel_rfl) (by decide) (b:=1) (by kernel_rfl) (fun _=>rfl) (Rd.u8 Tryz.underlying5)).map id (fun l=>by simp[bD,B4,Function.comp_def]) fun l h=>⟨by have:=h.1;simp only[id]at*;omega,h.2⟩
theorem d6z:RdP enc W 59 a1F (fun f=>f.1.length<2^47∧I64 f.2):=
 (Rd.struct Tryz.underlying59 (by kernel_rfl) (.cons rfl (s:=1) (by kernel_rfl) (Rd.str Tryz.underlying9) (.cons rfl (s:=1) (by kernel_rfl) (Rd.i64 Tryz.underlying3) .nil))).map (fun p=>(p.1,p.2.1)) (fun _=>rfl) fun p h=>⟨h.1,h.2.1⟩
theorem d5h:RdP enc W 55 (fun l=>[a3a l]) (fun l=>l.length<2^47∧∀f∈l,f.1.length<2^47∧I64 f.2):=
 (Rd.slice (sz:=2) Tryz.underlying55 (by kernel_rfl) (by decide) (b:=24) (by kernel_rfl) (fun _=>rfl) d6z).map id (fun _=>rfl) fun l h=>⟨by have:=h.1;simp only[id]at*;omega,h.2⟩
theorem d8a:RdP enc W 57 W6 Ty.Ok:=
 (Rd.struct Tryz.underlying57 (by kernel_rfl) (.cons rfl (s:=1) (by kernel_rfl) (Rd.u8 Tryz.underlying5) (.cons rfl (s:=1) (by kernel_rfl) (Rd.str Tryz.underlying9) (.cons rfl (s:=1) (by kernel_rfl) d5h (.cons rfl (s:=1) (by kernel_rfl) (Rd.i64 Tryz.underlying3) (.cons rfl (s:=1) (by kernel_rfl) (Rd.i64 Tryz.underlying3) .nil)))))).map
  (fun p=>(⟨p.1,p.2.1,p.2.2.1,p.2.2.2.1,p.2.2.2.2.1⟩:Ty)) (fun _=>rfl) fun p h=>⟨h.1,h.2.1,h.2.2.1.1,h.2.2.1.2,h.2.2.2.1,h.2.2.2.2.1⟩
theorem d6D:RdP enc W 22 (fun l=>[b0l l]) (fun l=>l.length<2^47∧∀t∈l,t.Ok):=
 (Rd.slice (sz:=5) Tryz.underlying22 (by kernel_rfl) (by decide) (b:=64) (by kernel_rfl) (fun _=>rfl) d8a).map id (fun _=>rfl) fun l h=>⟨by have:=h.1;simp only[id]at*;omega,h.2⟩
theorem d7E:RdP enc W 23 (fun l=>[b1r l]) (fun l=>l.length<2^47∧∀t∈l,t.length<2^47):=
 (Rd.slice (sz:=1) Tryz.underlying23 (by kernel_rfl) (by decide) (b:=16) (by kernel_rfl) (fun _=>rfl) (Rd.str Tryz.underlying9)).map id (fun l=>by simp[b1r,B4,Function.comp_def]) fun l h=>⟨by have:=h.1;simp only[id]at*;omega,h.2⟩
theorem d8q:RdP enc W 61 L8 Ro.Ok:=
 (Rd.struct Tryz.underlying61 (by kernel_rfl) (.cons rfl (s:=1) (by kernel_rfl) (Rd.str Tryz.underlying9) (.cons rfl (s:=1) (by kernel_rfl) c1l (.cons rfl (s:=1) (by kernel_rfl) c1l (.cons rfl (s:=1) (by kernel_rfl) (Rd.i64 Tryz.underlying3) (.cons rfl (s:=1) (by kernel_rfl) (Rd.i64 Tryz.underlying3) (.cons rfl (s:=1) (by kernel_rfl) d5b .nil))))))).map
  (fun p=>(⟨p.1,p.2.1,p.2.2.1,p.2.2.2.1,p.2.2.2.2.1,p.2.2.2.2.2.1⟩:Ro)) (fun _=>rfl) fun p h=>⟨h.1,h.2.1.1,h.2.2.1.1,fun n hn=>by
   rcases List.mem_append.1 hn with hn|hn
   ·exact h.2.1.2 n hn
   ·exact h.2.2.1.2 n hn,h.2.2.2.1,h.2.2.2.2.1,h.2.2.2.2.2.1.1,h.2.2.2.2.2.1.2⟩
theorem d7i:RdP enc W 24 (fun l=>[a9d l]) (fun l=>l.length<2^47∧∀t∈l,t.Ok):=
 (Rd.slice (sz:=6) Tryz.underlying24 (by kernel_rfl) (by decide) (b:=104) (by kernel_rfl) (fun _=>rfl) d8q).map id (fun _=>rfl) fun l h=>⟨by have:=h.1;simp only[id]at*;omega,h.2⟩
theorem d8d:RdP enc W 26 M3 Mo.Ok:=
 (Rd.struct Tryz.underlying26 (by kernel_rfl) (.cons rfl (s:=1) (by kernel_rfl) d6D (.cons rfl (s:=1) (by kernel_rfl) d7E (.cons rfl (s:=1) (by kernel_rfl) d7i .nil)))).map
  (fun p=>(⟨p.1,p.2.1,p.2.2.1⟩:Mo)) (fun _=>rfl) fun p h=>⟨h.1.1,h.2.1.1,h.2.2.1.1,h.1.2,h.2.1.2,h.2.2.1.2⟩
end
end Go.Proofs.YtdkidgkiplcggaaGreat.d
end
section
open Go Go.Am
namespace Go.Am.Old
open Go.ChangeShapes Go.WideShapes Go.ChangeAt Go.RowKit
theorem c6I{P:Program}{w:World}{r:Reach}{base:Nat}{t:TypeId}{v:Value}{n:Nat}{e:TypeId}(ht:P.underlying t=some (.array n e))(h:Value.okWide P w r base t v):∃cs,v= .agg cs∧cs.size=P.cellsOf t:=by
 simp only[Value.okWide,ht]at h
 obtain⟨cs,h1,h2,_⟩:=h
 exact⟨cs,h1,h2⟩
theorem Rd.array2{H:Type}{enc:TypeId×Value→H}{P:Program}{W:World}{t e:TypeId}{s:Nat}{α:Type}{row:α→List D}{G:α→Prop}(ht:P.underlying t=some (.array 2 e))(hc:P.cellsOf t=s+s)(hs:P.cellsOf e=s)(h:Rd enc P W e row G):
  Rd enc P W t (fun p:α×α=>row p.1++row p.2) (fun p=>G p.1∧G p.2):=fun hd n cs x hx hw=>by
 cases n with
 |zero=>simp[DataW.trod]at hx
 |succ n=>
  simp only[DataW.trod,ht]at hx
  split at hx
  ·rename_i hl
   rw[show List.range 2=[0,1]from rfl]at hx
   simp only[List.mapM_cons,List.mapM_nil,Option.bind_eq_bind,Option.pure_def,Option.map_eq_some_iff,Option.bind_eq_some_iff,hs]at hx
   obtain⟨ys,⟨y,hy,ys',⟨z,hz,ys2,he,he2⟩,he3⟩,rfl⟩:=hx
   cases he
   cases he2
   cases he3
   simp only[DataW.weights,ht,DataW.weightsAll,List.map_cons,List.map_nil,List.mem_append,List.append_nil]at hw
   obtain⟨a,a1,a2,a3⟩:=h hd n _ y hy fun k hk=>hw k (.inl hk)
   obtain⟨b,b1,b2,b3⟩:=h hd n _ z hz fun k hk=>hw k (.inr hk)
   have e:cs.map a3o=((cs.drop (0*s)).take s).map a3o++((cs.drop (1*s)).take s).map a3o:=by
    have h1:cs.take (s+s)=cs:=List.take_of_length_le (by omega)
    rw[Nat.zero_mul,Nat.one_mul,List.drop_zero, ←List.map_append, ←List.take_add,h1]
   exact⟨(a,b),⟨a1,b1⟩,fun R=>by rw[e];exact(a2 R).append (b2 R),by rw[e,List.all_append,a3,b3];rfl⟩
  ·cases hx
theorem Rd.argR{H:Type}{enc:TypeId×Value→H}{P:Program}{W:World}{t:TypeId}{α:Type}{row:α→List D}{G:α→Prop}(h:Rd enc P W t row G){m:Nat}{e:TypeId}{r:Reach}{b0:Nat}{v:Value}(hv:Value.okWide P W r b0 t v)(ht:P.underlying t=some (.array m e))
  {d:DataW H} {ps:List MemPlace} (h0:DataW.Trod enc P W 0 (fun _=>true) true t v d ps) (hw:∀k∈DataW.weights P t d,k≤reachBytes):∃a,G a∧∀R,Rp (a2l W) R (.agg (row a)) (c0p v):=by
 obtain⟨n,hn⟩:=h0
 obtain⟨cs,rfl,_⟩:=c6I ht hv
 obtain⟨a,a1,a2,a3⟩:=h true n _ _ hn hw
 refine⟨a,a1,fun R=> ?_⟩
 simp only[c0p,Rp]
 exact⟨_,rfl,a2 R,a3⟩
end Go.Am.Old
open Go.Proofs Go.Am.Old Go.Op
namespace Go.Proofs.YtdkidgkiplcggaaGreat.d
section
variable{H:Type}{enc:TypeId×Value→H}{W:World}
theorem d8g:RdP enc W 29 H9 (fun f=>f.locals.length<2^47∧f.stack.length<2^47∧∀n∈f.locals++f.stack,I64 n):=
 (Rd.struct Tryz.underlying29 (by kernel_rfl) (.cons rfl (s:=1) (by kernel_rfl) c1l (.cons rfl (s:=1) (by kernel_rfl) c1l .nil))).map (fun p=>(⟨p.1,p.2.1⟩:Fr)) (fun _=>rfl) fun p h=>⟨h.1.1,h.2.1.1,fun n hn=>by
   rcases List.mem_append.1 hn with hn|hn
   ·exact h.1.2 n hn
   ·exact h.2.1.2 n hn⟩
end
end Go.Proofs.YtdkidgkiplcggaaGreat.d
end
