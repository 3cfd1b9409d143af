/-
  BlocksCutsSaid: part Pbd of its proof.
-/
import Derived.Test.YtdkidgkiplcggaaPbc
import Derived.Test.YtdkidgkiplcggaaPat
import Derived.Test.YtdkidgkiplcggaaPaw
set_option linter.unusedVariables false
set_option linter.unusedSimpArgs false
set_option maxRecDepth 100000
section
open Go.Proofs Go Go.Am Go.Op
namespace Go.Proofs.Ytdkidgkiplcggaa.d
section
set_option linter.unusedSectionVars false
def c4X(S0:b5)(r:List L9×Int)(v:D)(T:b5):Prop:=S0.le T∧∃t,v= .tup [t, .int .i64 r.2]∧b4B S0 t r.1 T
theorem b8A{a b:List Nat}(ha:a.Nodup)(hb:b.Nodup)(h:∀x∈a,x ∉ b):(a++b).Nodup:=List.nodup_append.2 ⟨ha,hb,fun x hx y hy e=>h x hx (by rw[e];exact hy)⟩
theorem c2y(d:D):(ob d).Nodup:=by cases d<;>simp[ob]
section
variable{E:g8}{w0:j0}
theorem d0v{code:List Int}{ys:List In}{ext tops:List Int}(h0:ys≠[]→tops.head? =some (ext.getD 0 0))(hyl:ys.length<2^39)(he:ext.length=ys.length+1)(htl:tops.length<2^40)(harm:∀y∈ys,y.arms.length≤65535){S0 S:b5}(hle:S0.le S):
  f9 Try.prog E w0 (.loop M3) (i7 173 [0,5,14,16,94,95,96] [bD code,iD ext,iD tops, .nilSlc,H6 ys, .int .i64 (ys.length:Int),(.int .i64 0)]) S (M4 E w0 (b9 E (c4X S0 (Z9 code.length (s6 ys ext tops ys.length))))):=by
 refine a5P (I:=fun n x0 x5 x14 x16 x94 x95 x96 T=>x0=bD code∧x5=iD ext∧x94=H6 ys∧x95= .int .i64 (ys.length:Int)∧∃i:Nat,x96= .int .i64 (i:Int)∧i+n=ys.length∧x14=iD (s6 ys ext tops i).1∧b4B S0 x16 (s6 ys ext tops i).2 T∧S0.le T) ?_ (n:=ys.length)
  ⟨rfl,rfl,rfl,rfl,0,rfl,by omega,rfl,b4B.nil,hle⟩
 rintro n _ _ _ x16 _ _ _ T ⟨rfl,rfl,rfl,rfl,i,rfl,hi,rfl,hg,hle⟩
 unfold a1L
 obtain⟨b1,b2⟩:=a8C ys ext tops i
 rw[M7,oD,V7]
 refine⟨fun hlt=> ?_,fun hge=> ?_⟩
 ·have hlt:i<ys.length:=by omega
  have hy:ys[i]? =some ys[i]:=List.getElem?_eq_getElem hlt
  have hmem:ys[i]∈ys:=List.getElem_mem hlt
  generalize ys[i]=y at hy hmem
  have hx:ext[i+1]? =some (ext.getD (i+1) 0):=by rw[List.getD_eq_getElem?_getD,List.getElem?_eq_getElem (by omega)];rfl
  have hix:j5 1 (iD ext) (.int .i64 ((i:Int)+1))=some (.elt [.int .i64 (ext.getD (i+1) 0)] 0):=a0y hx
  have hx0:ext[i]? =some (ext.getD i 0):=by rw[List.getD_eq_getElem?_getD,List.getElem?_eq_getElem (by omega)];rfl
  rw[a5n hy,oD,laE,if_pos ⟨by decide,by simp[N7]⟩,oD]
  intro ka a na
  refine(D3.new (sz:=4) (c:=[.int .u8 0, .int .i64 0, .int .i64 0, .nilSlc])).st (ds:=N7 y) (clA _) ⟨rfl,by decide,by simp[N7]⟩ fun c=> ?_
  rw[b5.set_set,show j4 [D.int .u8 0, .int .i64 0, .int .i64 0, .nilSlc] 0 (N7 y)=N7 y from rfl]
  have ca:D3 (T.set ka ⟨4,[N7 y],c⟩) ka 4 (N7 y):=D3.new
  have l1:S0.le (T.set ka ⟨4,[N7 y],c⟩):=b5.le_trans hle (b5.le_new na)
  have hg:=hg.of (b5.le_new (o:=⟨4,[N7 y],c⟩) na)
  generalize (T.set ka ⟨4,[N7 y],c⟩)=T1 at ca l1 hg
  rw[ca.all (n:=4) (by decide) rfl,oD,C4,oD,i6 (by omega) (by omega),hix,oD,lsE,List.getElem?_cons_zero,oD]
  refine(a5I (harm y hmem)).use ?_
  rintro v T2 ⟨l2,to,rfl,hto⟩
  have hto0:=hto
  obtain⟨rows,g1,g2,g3⟩:=hg
  have hnew:∀j∈ob to,T1 j=none:=fun j hj=>(hto.ob_none j hj).1
  have hdis:∀j∈obR rows,j ∉ ob to:=fun j hj hm=>(g2.there j hj).1 (hnew j hm)
  have g1o:=g1
  have g1:=g1.le l2
  have g2':K2 S0 (s6 ys ext tops i).2 rows T2:=g2.of fun j hj=>by
   obtain⟨o,ho⟩:=Option.ne_none_iff_exists'.1 (g2.there j hj).1
   rw[ho,l2 _ _ ho]
  have hto:=hto.under l1
  have l3:=b5.le_trans l1 l2
  have g1a:O4 S0 (obR rows++ob to) x16 rows 3 T2:=by
   rcases g1 with h|⟨k,acs,k0,k1,k2,k3⟩
   ·exact .inl h
   ·refine .inr ⟨k,acs,k0,fun hm=> ?_,k2,k3⟩
    rcases List.mem_append.1 hm with hm|hm
    ·exact k1 hm
    ·have:=hnew k hm
     rcases g1o with ⟨e2,_⟩|⟨k',acs',_,_,e2,e3⟩
     ·rw[k2]at e2;cases e2
     ·rw[k2]at e2
      cases e2
      rw[this]at e3
      cases e3
  have hcell:=hto.cells
  simp only[exD,List.getElem?_cons_zero,List.getElem?_cons_succ,oD,a1I,a8g]
  have hrl:=g2'.len
  have stay:(s6 ys ext tops i).1.head? ≠some (ext.getD i 0)→J2 E w0 (fun x0 x5 x14 x16 x94 x95 x96 S=>∃m,m<n∧x0=bD code∧x5=iD ext∧x94=H6 ys∧x95= .int .i64 (ys.length:Int)∧∃i:Nat,x96= .int .i64 (i:Int)∧i+m=ys.length∧x14=iD (s6 ys ext tops i).1∧b4B S0 x16 (s6 ys ext tops i).2 S∧S0.le S)
    (b9 E (c4X S0 (Z9 code.length (s6 ys ext tops ys.length)))) (bD code) (iD ext) (iD (s6 ys ext tops i).1) x16 (.int .i64 (i:Int)) to (H6 ys) (.int .i64 (ys.length:Int)) (.int .i64 (i:Int)) T2:=by
   intro hc
   have hne:(s6 ys ext tops i).2≠[]:=by
    cases i with
    |zero=>exact absurd (h0 (fun e=>by rw[e]at hlt;cases hlt)) hc
    |succ i=>exact b0m (ys:=ys) (h0 (fun e=>by rw[e]at hlt;cases hlt)) (by omega) (by omega)
   obtain⟨l,b,e⟩:∃l b,(s6 ys ext tops i).2=l++[b]:=⟨_,_,(List.dropLast_concat_getLast hne).symm⟩
   have hs:s6 ys ext tops (i+1)=((s6 ys ext tops i).1,l++[⟨b.at',ext.getD (i+1) 0,p4 y (ext.getD (i+1) 0)⟩]):=by
    simp only[s6,b7s,hy]
    rw[if_neg hc,e,a1h]
   rw[e]at g2'
   obtain⟨rs,d0,e2,k1,k2⟩:=g2'.init
   subst e2
   rw[e,List.length_append,List.length_singleton]at b1
   have hrsl:=k1.len
   rw[a7X]at g1a hdis g3
   have g1b:O4 S0 (obR rs++ob to) x16 (rs++[[.int .i64 b.at', .int .i64 b.end',d0]]) 3 T2:=by
    rcases g1a with h|⟨k,acs,m0,m1,m2⟩
    ·exact .inl h
    ·refine .inr ⟨k,acs,m0,fun hm=>m1 ?_,m2⟩
     rcases List.mem_append.1 hm with hm|hm
     ·exact List.mem_append.2 (.inl (List.mem_append.2 (.inl hm)))
     ·exact List.mem_append.2 (.inr hm)
   refine c6m hlt (by omega) he (by omega) hcell g1b l3 fun S' hg' hle' hsame=> ?_
   refine⟨n - 1,by omega,rfl,rfl,rfl,rfl,i+1,rfl,by omega,by rw[hs], ?_,hle'⟩
   rw[hs]
   refine⟨rs++[[.int .i64 b.at', .int .i64 (ext.getD (i+1) 0),to]], ?_,K2.snoc (b:=⟨b.at',ext.getD (i+1) 0,p4 y (ext.getD (i+1) 0)⟩) (hto.of fun j hj=>hsame j (List.mem_append.2 (.inr hj))) (k1.of fun j hj=>hsame j (List.mem_append.2 (.inl hj))), ?_⟩
   ·rw[a7X];exact hg'
   ·rw[a7X]
    exact b8A (List.nodup_append.1 g3).1 (c2y to) fun j hj=>hdis j (List.mem_append.2 (.inl hj))
  cases htp:(s6 ys ext tops i).1 with
  |nil=>
   have e1:decide (((([]:List Int).length:Nat):Int)>0)=false:=by simp
   simp only[e1,wdB,t3,vdF,oD,pdB,Bool.false_eq_true,if_false,cdF,wdU]
   rw[htp]at stay
   exact stay (by simp)
  |cons t tl=>
   have e1:decide ((((t::tl).length:Nat):Int)>0)=true:=decide_eq_true (by rw[List.length_cons];omega)
   have i0:j5 1 (iD (t::tl)) (.int .i64 0)=some (.elt [.int .i64 t] 0):=a0y (i:=0) rfl
   simp only[e1,wdB,t4,vdT,oD,i0,lsE,List.getElem?_cons_zero,a0y hx0,O7,pdB,if_true]
   rw[V7]
   refine⟨fun ht=> ?_,fun ht=> ?_⟩
   ·subst ht
    rw[c4k,oD,
     show l8 [D.int .i64 0, .int .i64 0, .nilSlc] [(0,1, .int .i64 (ext.getD i 0))]=some [.int .i64 (ext.getD i 0), .int .i64 0, .nilSlc]from rfl,agS,oD,
     show o7 3 (List.replicate 1 [D.int .i64 0, .int .i64 0, .nilSlc]) [(0, .agg [.int .i64 (ext.getD i 0), .int .i64 0, .nilSlc])]=some [[.int .i64 (ext.getD i 0), .int .i64 0, .nilSlc]]from rfl]
    refine E8 rfl ?_
    refine g1a.push (news:=[[.int .i64 (ext.getD i 0), .int .i64 0, .nilSlc]]) l3 (fun j hj=> ?_) (by simp[rowsS,C1]) (by simp) (by simp;omega) fun t' S3 hle3 hsame3 hg3=> ?_
    ·rcases List.mem_append.1 hj with hj|hj
     ·exact(g2'.there j hj).1
     ·exact hto.ob_some j hj
    have hs:s6 ys ext tops (i+1)=(tl,(s6 ys ext tops i).2++[⟨ext.getD i 0,ext.getD (i+1) 0,p4 y (ext.getD (i+1) 0)⟩]):=by
     simp only[s6,b7s,hy]
     rw[if_pos (by rw[htp];rfl),htp];rfl
    refine c6m hlt (by omega) he (rows:=rows) (by omega) hcell hg3 hle3 fun S' hg' hle' hsame=> ?_
    refine⟨n - 1,by omega,rfl,rfl,rfl,rfl,i+1,rfl,by omega,by rw[hs], ?_,hle'⟩
    rw[hs]
    have hall:∀j∈obR rows++ob to,S' j=T2 j:=fun j hj=>by rw[hsame j hj,hsame3 j hj]
    refine⟨rows++[[.int .i64 (ext.getD i 0), .int .i64 (ext.getD (i+1) 0),to]], ?_,K2.snoc (b:=⟨ext.getD i 0,ext.getD (i+1) 0,p4 y (ext.getD (i+1) 0)⟩) (hto.of fun j hj=>hall j (List.mem_append.2 (.inr hj))) (g2'.of fun j hj=>hall j (List.mem_append.2 (.inl hj))), ?_⟩
    ·rw[a7X];exact hg'
    ·rw[a7X]
     exact b8A g3 (c2y to) hdis
   ·rw[htp]at stay
    exact stay (by simp;exact ht)
 ·have hin:i=ys.length:=by omega
  subst hin
  have lb:j9 (bD code)=some (.int .i64 code.length):=by simp[bD,J5]
  have bad:Z9 code.length (s6 ys ext tops ys.length)=([],190)→b9 E (c4X S0 (Z9 code.length (s6 ys ext tops ys.length))) (.tup [.nilSlc, .int .i64 190]) T:=fun e=>by
   rw[e]
   exact b9.here ⟨hle,_,rfl,b4B.nil⟩
  have hnx:=a3z harm ext tops ys.length
  generalize s6 ys ext tops ys.length=st at*
  obtain⟨tp,out⟩:=st
  obtain⟨rows,g1,g2,g3⟩:=hg
  simp only[a1I,oD,a8g]
  have hrl:=g2.len
  cases tp with
  |cons t tl=>
   have e1:decide ((((t::tl).length:Nat):Int)>0)=true:=decide_eq_true (by rw[List.length_cons];omega)
   simp only[e1,wdB,t1,vdF,gdF,oD,pdB,if_true,cdT]
   exact bad rfl
  |nil=>
   have e1:decide (((([]:List Int).length:Nat):Int)>0)=false:=by simp
   simp only[e1,wdB,t2,vdT,oD,g1.len,O7,pdB,Bool.false_eq_true,if_false]
   rcases List.eq_nil_or_concat out with rfl|⟨l,b,rfl⟩
   ·have e2:decide ((rows.length:Int)=0)=true:=decide_eq_true (by rw[hrl];rfl)
    simp only[e2,wdB,t1,vdF,gdF,oD,pdB,if_true,cdT]
    exact bad rfl
   ·rw[List.concat_eq_append]at*
    obtain⟨rs,d0,e,k1,k2⟩:=K2.init g2
    subst e
    have hrsl:=k1.len
    simp only[List.length_append,List.length_singleton]at hrl b1
    have e2:decide (((rs++[[D.int .i64 b.at', .int .i64 b.end',d0]]).length:Int)=0)=false:=decide_eq_false (by rw[List.length_append,List.length_singleton];omega)
    have e3:IntKind.i64.wrap (((rs++[[D.int .i64 b.at', .int .i64 b.end',d0]]).length:Int) - 1)=(rs.length:Int):=by
     rw[List.length_append,List.length_singleton,i6 (by omega) (by omega)];omega
    obtain⟨p,p1,p2,p3,_⟩:=b6U g1 hle
    obtain⟨q,q1,q2⟩:=p3 2
    have q2:d9 T q=some d0:=q2
    simp only[e2,wdB,t2,vdT,oD,g1.len,a0M,e3,p1,q1,q2,lb,gdT,pdB,Bool.false_eq_true,if_false]
    refine(c2D (l:=b.next) (q:=(code.length:Int)) (by have:=hnx b (by simp);omega) k2.rd).use ?_
    rintro v S' ⟨rfl,rfl⟩
    rw[V7]
    have he1:∀r:List L9×Int,(if(code.length:Int)∈b.next then([],190) else(l++[b],0))=r→Z9 code.length ([],l++[b])=r:=fun r h=>by
     unfold Z9
     simp only[List.getLast?_append,List.getLast?_singleton,Option.some_or]
     exact h
    refine⟨fun hm=>bad (he1 _ (if_pos hm)),fun hm=> ?_⟩
    rw[he1 (l++[b],0) (if_neg hm)]
    exact b9.here ⟨hle,x16,rfl,_,g1,g2,g3⟩
theorem b7F{code:List Int}(hb:∀b∈code,J0 b)(hl:code.length<2^20){S:b5}:p8 Try.prog E w0 O9 [bD code] S (c4X S (z6 code)):=by
 refine a9N hb hl (fun e T h hle=> ?_) fun L h h0 h1 h2 h3 h4 T hle=> ?_
 ·unfold z6
  rw[h]
  exact b9.here ⟨hle,_,rfl,b4B.nil⟩
 ·rw[a6o h]
  exact d0v h0 h1 h2 h3 h4 hle
end
end
section
def a2e(f:Fld):List D:=[.int .i64 (f.size:Int), .int .i64 f.lo, .int .i64 f.hi, .bool (decide (f.lo<0))]
theorem orD{a:Bool}{n m:Int}{K:D→Prop}:(b4 (d6 (b8 (.bool a) false) (some (.int .u8 n))) fun v13=>b4 (d6 (b8 (.bool a) false) (d5 .eql v13 (.int .u8 m))) fun v14=>b4 (y9 (.bool a) (.bool true) v14) K)=K (.bool (a||n==m)):=by
 cases a<;>simp
theorem d1s{n m k:Int}{K:D→Prop}:(b4 (d5 .geq (.int .u8 n) (.int .u8 m)) fun v=>b4 (d6 (b8 v true) (some (.int .u8 n))) fun v'=>b4 (d6 (b8 v true) (d5 .leq v' (.int .u8 k))) fun v''=>b4 (y9 v v'' (.bool false)) K)=K (.bool (decide (m≤n∧n≤k))):=by
 by_cases h:m≤n
 ·by_cases h2:n≤k<;>simp[h,h2]
 ·simp[h]
theorem c8V{a:Bool}{n m k:Int}{K:D→Prop}:(b4 (d6 (b8 (.bool a) false) (some (.int .u8 n))) fun v25=>b4 (d6 (b8 (.bool a) false) (d5 .geq v25 (.int .u8 m))) fun v26=>b4 (d6 (b8 (.bool a) false) (some v26)) fun v27=>b4 (d6 (b8 v27 true) (some (.int .u8 n))) fun v28=>
  b4 (d6 (b8 v27 true) (d5 .leq v28 (.int .u8 k))) fun v29=>b4 (d6 (b8 (.bool a) false) (y9 v27 v29 (.bool false))) fun v30=>b4 (y9 (.bool a) (.bool true) v30) K)=K (.bool (a||decide (m≤n∧n≤k))):=by
 cases a
 ·by_cases h:m≤n
  ·by_cases h2:n≤k<;>simp[h,h2]
  ·simp[h]
 ·simp
section
variable{E:g8}{w0:j0}{S:b5}{op:Int}
theorem b9Q{ds:List D}(hl:ds.length=4){Q:D→b5→Prop}(h:∀ {S':b5},S.le S'→b9 E Q (.agg ds) S'):o6 S [(.int .i64 0),(.int .i64 0),(.int .i64 0),(.bool false)] fun v0 S1=>j1 S1 4 v0 (.agg ds) fun v3 S4=>b4 (l9 S4 4 v0) fun v5=>b9 E Q v5 S4:=by
 intro k acs hk
 refine stP (ds:=ds) (b5.set_same _ _ _) (clA _) ⟨hl,by decide,by simp⟩ fun acs=> ?_
 have e:j4 [(D.int .i64 0),(.int .i64 0),(.int .i64 0),(.bool false)] 0 ds=ds:=by
  match ds,hl with
  | [a,b,c,d],_=>rfl
 rw[b5.set_set,e,laP (b5.set_same _ _ _) ⟨by decide,by omega⟩,oD,List.drop_zero,List.take_of_length_le (by omega)]
 exact h (b5.le_new hk)
theorem a1c:U2 Try.prog E w0 R4 [] (.agg (a2e fIx)):=fun S=>by
 refine b2q ?_
 unfold a9E
 simp only[l8,clI,j4,List.length_cons,List.length_nil,List.set,agS,oD,Nat.reduceAdd,Nat.reduceLeDiff,and_self,if_true]
 exact b9Q rfl fun h=>b9.less h b9.pure
theorem a5g:U2 Try.prog E w0 a1s [] (.agg (a2e E1)):=fun S=>by
 refine b4o ?_
 unfold b1C
 simp only[l8,clI,j4,List.length_cons,List.length_nil,List.set,agS,oD,Nat.reduceAdd,Nat.reduceLeDiff,and_self,if_true]
 exact b9Q rfl fun h=>b9.less h b9.pure
theorem X7{hi:Int}:U2 Try.prog E w0 M1 [.int .i64 hi] (.agg (a2e ⟨1,1,hi⟩)):=fun S=>by
 refine b3g ?_
 unfold a9H
 simp only[l8,clI,j4,List.length_cons,List.length_nil,List.set,agS,oD,Nat.reduceAdd,Nat.reduceLeDiff,and_self,if_true]
 exact b9Q rfl fun h=>b9.less h b9.pure
theorem b4S{f:Fld}{n:Int}:U2 Try.prog E w0 a3b [.agg (a2e f), .int .i64 n] (.bool (f.may n)):=fun S=>by
 refine b0L ?_
 unfold a7s
 rw[clA,oD]
 intro k acs hk
 have l:∀i,d9 (S.set k ⟨(a2e f).length,[a2e f],acs⟩) (.ptr k i)=(a2e f)[i]? :=fun i=>ldP (b5.set_same _ _ _)
 rw[ofP,oD,l,show(a2e f)[0+1]? =some (.int .i64 f.lo) from rfl,oD]
 by_cases h:f.lo≤n
 ·by_cases h2:n≤f.hi
  ·simp[h,h2,l,show(a2e f)[2]? =some (.int .i64 f.hi) from rfl]
   refine b9.drop hk ?_
   rw[show f.may n=true by unfold Fld.may;simp[h,h2]];exact b9.pure
  ·simp[h,h2,l,show(a2e f)[2]? =some (.int .i64 f.hi) from rfl]
   refine b9.drop hk ?_
   rw[show f.may n=false by unfold Fld.may;simp[h,h2]];exact b9.pure
 ·simp[h]
  refine b9.drop hk ?_
  rw[show f.may n=false by unfold Fld.may;simp[h]];exact b9.pure
theorem b9K{ds:List D}(hl:ds.length=4){K:D→b5→Prop}(h:K (.lst [ds] 4) S):C7 S 4 (o7 4 (List.replicate 1 [(.int .i64 0),(.int .i64 0),(.int .i64 0),(.bool false)]) [(0, .agg ds)]) 1 K:=by
 simp only[o7,clA,List.length_cons,List.length_nil,List.replicate,List.set]
 rw[if_pos ⟨hl,by decide⟩]
 exact E8 rfl h
theorem c8L{ds:List D}(hl:ds.length=4){K:D→b5→Prop}(h:K (.lst [ds,ds] 4) S):C7 S 4 (o7 4 (List.replicate 2 [(.int .i64 0),(.int .i64 0),(.int .i64 0),(.bool false)]) [(0, .agg ds),(1, .agg ds)]) 2 K:=by
 simp only[o7,clA,List.length_cons,List.length_nil,List.replicate,List.set]
 rw[if_pos ⟨hl,by decide⟩,if_pos ⟨hl,by decide⟩]
 exact E8 rfl h
theorem b5s:U2 Try.prog E w0 a5c [.int .u8 op] (.tup [.lst (((lay op).getD []).map a2e) 4, .bool (lay op).isSome]):=fun S=>by
 refine b3y ?_
 unfold a9D
 rw[←c8y]
 unfold c2o
 have e0:∀d:D,d= .tup [.lst (((c2o op).getD []).map a2e) 4, .bool (c2o op).isSome]→b9 E (fun d' S'=>d'= .tup [.lst (((c2o op).getD []).map a2e) 4, .bool (c2o op).isSome]∧S'=S) d S:=fun d h=>h▸b9.pure
 unfold c2o at e0
 simp only[a2Z,oD,orD,d1s,c8V,cdB]
 simp only[l8,clI,clB,j4,List.length_cons,List.length_nil,List.set,agS,oD,Nat.reduceAdd,Nat.reduceLeDiff,and_self,if_true]
 refine⟨fun h=> ?_,fun h1=>⟨fun h=> ?_,fun h2=>⟨fun h=> ?_,fun h3=>⟨fun h=> ?_,fun h4=>⟨fun h=> ?_,fun h5=>⟨fun h=> ?_,fun h6=>⟨fun h=> ?_,fun h7=>⟨fun h=> ?_,fun h8=>⟨fun h=> ?_,fun h9=>⟨fun h=> ?_,fun h10=>⟨fun h=> ?_,fun h11=> ?_⟩⟩⟩⟩⟩⟩⟩⟩⟩⟩⟩
 all_goals
  try replace h1:¬op=1:=by simpa using h1
  try replace h2:¬op=2:=by simpa using h2
  try replace h3:¬op=3:=by simpa using h3
  try replace h8:¬op=29:=by simpa using h8
  try replace h10:¬op=52:=by simpa using h10
  try replace h11:¬op=49:=by simpa using h11
  try simp only[if_neg h1]at e0 ⊢
  try simp only[if_neg h2]at e0 ⊢
  try simp only[if_neg h3]at e0 ⊢
  try simp only[h4,Bool.false_eq_true,if_false]at e0 ⊢
  try simp only[h5,Bool.false_eq_true,if_false]at e0 ⊢
  try simp only[h6,Bool.false_eq_true,if_false]at e0 ⊢
  try simp only[h7,Bool.false_eq_true,if_false]at e0 ⊢
  try simp only[if_neg h8]at e0 ⊢
  try simp only[h9,Bool.false_eq_true,if_false]at e0 ⊢
  try simp only[if_neg h10]at e0 ⊢
  try simp only[if_neg h11]at e0 ⊢
 ·replace h:op=1:=by simpa using h
  simp only[if_pos h]at e0 ⊢;exact b9K rfl (e0 _ rfl)
 ·replace h:op=2:=by simpa using h
  simp only[if_pos h]at e0 ⊢;exact b9K rfl (e0 _ rfl)
 ·replace h:op=3:=by simpa using h
  simp only[if_pos h]at e0 ⊢;exact b9K rfl (e0 _ rfl)
 ·simp only[h,if_true]at e0 ⊢;exact a1c.use (b9K rfl (e0 _ rfl))
 ·simp only[h,if_true]at e0 ⊢;exact a1c.use (a1c.use (c8L rfl (e0 _ rfl)))
 ·simp only[h,if_true]at e0 ⊢;exact X7.use (b9K rfl (e0 _ rfl))
 ·simp only[h,if_true]at e0 ⊢;exact X7.use (b9K rfl (e0 _ rfl))
 ·replace h:op=29:=by simpa using h
  simp only[if_pos h]at e0 ⊢;exact X7.use (X7.use (c8L rfl (e0 _ rfl)))
 ·simp only[h,if_true]at e0 ⊢;exact a5g.use (b9K rfl (e0 _ rfl))
 ·replace h:op=52:=by simpa using h
  simp only[if_pos h]at e0 ⊢;exact b9K rfl (e0 _ rfl)
 ·replace h:op=49:=by simpa using h
  simp only[if_pos h]at e0 ⊢;exact X7.use (b9K rfl (e0 _ rfl))
 ·by_cases h12:decide (1≤op∧op≤52)=true
  ·simp only[h12,if_true]at e0 ⊢;exact b9.nilT (lp:=[]) (sz:=4) (e0 _ rfl)
  ·have h12:decide (1≤op∧op≤52)=false:=by simpa using h12
   simp only[h12,Bool.false_eq_true,if_false]at e0 ⊢;exact b9.nilT (lp:=[]) (sz:=4) (e0 _ rfl)
end
end
section
theorem c7v(w:Int):∃b:Nat,R3 w=(b:Int)∧(b=0∨b=8∨b=32∨b=64):=by
 unfold R3
 split
 ·exact⟨8,rfl,by omega⟩
 split
 ·exact⟨32,rfl,by omega⟩
 split
 ·exact⟨64,rfl,by omega⟩
 ·exact⟨0,rfl,by omega⟩
section
variable{E:g8}{w0:j0}{S:b5}
theorem b7D{w:Int}:U2 Try.prog E w0 a6h [.int .u8 w] (.int .i64 (R3 w)):=fun S=>by
 refine b4J ?_
 unfold b0K R3
 simp only[a2Z,oD,cdB,beq_iff_eq,beq_eq_false_iff_ne,ne_eq]
 refine⟨fun h=> ?_,fun h1=>⟨fun h=> ?_,fun h2=>⟨fun h=> ?_,fun h3=> ?_⟩⟩⟩<;>simp only[*,if_true,if_false]<;>exact b9.pure
end
end
section
@[simp] theorem c8C(S:b5)(f:Fld):l9 S 4 (.elt (a2e f) 0)=some (.agg (a2e f)):=(rfl)
def rrC(bs:List Int)(p e:Int):List D:=[bD bs, .int .i64 p, .int .i64 e]
def a3X(S:b5)(k:Nat)(bs:List Int)(s:Nat×Int):Prop:=∃p:Int,D3 S k 3 (rrC bs p s.2)∧(s.2=0→p=s.1)
section
variable{E:g8}{w0:j0}
theorem K0{bs:List Int}(hb:∀b∈bs,J0 b)(hl:bs.length<2^30){s:Nat×Int}(hs:s.1≤bs.length){f:Fld}(hf:a4y f){S:b5}{k:Nat}(hk:a3X S k bs s):
  p8 Try.prog E w0 y8 [.ptr k 0, .agg (a2e f)] S fun v S'=>v= .int .i64 (w9 bs f s).1∧a3X S' k bs (w9 bs f s).2∧∀j,j≠k→S' j=S j:=by
 obtain⟨p,hc,hp⟩:=hk
 have h1:=hf.1
 have h8:=a3A hf
 refine a4Z ?_
 unfold a1x
 rw[clA,oD]
 intro k0 a0 n0
 have d:k≠k0:=hc.none n0
 generalize hS1:S.set k0 _=S1
 have bk:D3 S1 k 3 (rrC bs p s.2):=by rw[←hS1];exact hc.set n0
 have b0:D3 S1 k0 4 (a2e f):=by rw[←hS1];exact D3.new
 have e1:∀j,j≠k0→S1 j=S j:=fun j hj=>by rw[←hS1];exact b5.set_ne _ _ _ hj
 have fin:∀ {S2:b5} {v:Int} {s':Nat×Int} {p':Int},D3 S2 k 3 (rrC bs p' s'.2)→(s'.2=0→p'=s'.1)→(∀j,j≠k→S2 j=S1 j)→w9 bs f s=(v,s')→b9 E (fun v S'=>v= .int .i64 (w9 bs f s).1∧a3X S' k bs (w9 bs f s).2∧∀j,j≠k→S' j=S j) (.int .i64 v) S2:=fun{S2 v s' p'} g1 g2 g3 g4=>by
  refine b9.less (S':=S2.erase k0) (b5.erase_le _ _) (b9.here ?_)
  rw[g4]
  refine⟨rfl,⟨p',g1.of (b5.erase_ne _ _ d),g2⟩,fun j hj=> ?_⟩
  by_cases h:j=k0
  ·subst h;rw[b5.erase_same,n0]
  ·rw[b5.erase_ne _ _ h,g3 j hj,e1 j h]
 simp only[ndP,ofP,oD,Nat.zero_add,bk.ld,show(rrC bs p s.2)[2]? =some (.int .i64 s.2) from rfl,show(rrC bs p s.2)[1]? =some (.int .i64 p) from rfl,show(rrC bs p s.2)[0]? =some (bD bs) from rfl,b0.ld,show(a2e f)[0]? =some (.int .i64 (f.size:Int)) from rfl,a9c,a2u]
 rw[b9v,V7]
 refine⟨fun he=>fin bk hp (fun _ _=>rfl) (by rw[c0e he]),fun he=> ?_⟩
 have he:s.2=0:=Classical.not_not.1 he
 have hp:=hp he
 subst hp
 rw[a0M,oD,i6 (by omega) (by omega),a8g,oD,V7]
 refine⟨fun hsh=> ?_,fun hsh=> ?_⟩
 ·have hsh:bs.length<s.1+f.size:=by omega
  refine bk.st (clI _ _) ⟨rfl,by decide,by simp[rrC]⟩ fun a'=> ?_
  exact fin (s':=(s.1,10)) (p':=(s.1:Int)) D3.new (fun h=>by cases h) (fun j hj=>b5.set_ne _ _ _ hj) (by unfold w9;rw[if_neg (by simp[he]),if_pos hsh])
 have hsh:¬bs.length<s.1+f.size:=by omega
 obtain⟨u,hu⟩:∃u,u=leN ((bs.drop s.1).take f.size):=⟨_,rfl⟩
 have hur:w9 bs f s=match rdN f u with|some n=>(n,s.1+f.size,0)|none=>(0,s.1,120):=by
  unfold w9;rw[if_neg (by simp[he]),if_neg hsh, ←hu]
  cases rdN f u<;>rfl
 have hult:u<2^(8*f.size):=by
  rw[hu]
  have hbs:∀b∈(bs.drop s.1).take f.size,J0 b:=fun b hb'=>hb b (List.mem_of_mem_drop (List.mem_of_mem_take hb'))
  have:=a7M hbs
  rwa [show((bs.drop s.1).take f.size).length=f.size by rw[List.length_take,List.length_drop];omega]at this
 have h64:2^(8*f.size)≤2^64:=Nat.pow_le_pow_right (by decide) (by omega)
 refine a3g (I:=fun n x0 x3 x5 x6 T=>x0= .ptr k 0∧x3= .ptr k0 0∧S1=T∧∃i:Nat,x6= .int .i64 (i:Int)∧i+n=f.size∧x5= .int .u64 ((leN ((bs.drop s.1).take i):Nat):Int)) ?_ (n:=f.size) ⟨rfl,rfl,rfl,0,rfl,by omega,rfl⟩
 rintro n _ _ _ _ _ ⟨rfl,rfl,rfl,i,rfl,hi,rfl⟩
 unfold O3
 simp only[ndP,ofP,oD,Nat.zero_add,bk.ld,show(rrC bs s.1 s.2)[2]? =some (.int .i64 s.2) from rfl,show(rrC bs s.1 s.2)[1]? =some (.int .i64 (s.1:Int)) from rfl,show(rrC bs s.1 s.2)[0]? =some (bD bs) from rfl,b0.ld,show(a2e f)[0]? =some (.int .i64 (f.size:Int)) from rfl,M7]
 rw[V7]
 refine⟨fun hlt=> ?_,fun hge=> ?_⟩
 ·have hlt2:s.1+i<bs.length:=by omega
  obtain⟨y,hy⟩:∃y,y=bs[s.1+i]:=⟨_,rfl⟩
  have hj:bs[s.1+i]? =some y:=by rw[List.getElem?_eq_getElem hlt2,hy]
  obtain⟨y0,y1⟩:=hb y (by rw[hy];exact List.getElem_mem _)
  obtain⟨xn,hxn⟩:∃xn:Nat,y=(xn:Int):=⟨y.toNat,by omega⟩
  have hbs:∀b∈(bs.drop s.1).take i,J0 b:=fun b hb'=>hb b (List.mem_of_mem_drop (List.mem_of_mem_take hb'))
  have hlen:((bs.drop s.1).take i).length=i:=by rw[List.length_take,List.length_drop];omega
  have e3:=a7M hbs
  rw[hlen]at e3
  have htk:(bs.drop s.1).take (i+1)=(bs.drop s.1).take i++[y]:=by
   rw[List.take_add_one,List.getElem?_drop,hj];rfl
  have hsn:=b7m ((bs.drop s.1).take i) y
  rw[←htk,hlen]at hsn
  have e4:=a7M (l:=(bs.drop s.1).take (i+1)) fun b hb'=>hb b (List.mem_of_mem_drop (List.mem_of_mem_take hb'))
  rw[show((bs.drop s.1).take (i+1)).length=i+1 by rw[List.length_take,List.length_drop];omega]at e4
  have h3:2^(8*(i+1))≤2^64:=Nat.pow_le_pow_right (by decide) (by omega)
  have h4:2^(8*i)≤2^64:=Nat.pow_le_pow_right (by decide) (by omega)
  have hxt:y.toNat=xn:=by omega
  rw[hxt]at hsn
  rw[C4,oD,i6 (by omega) (by omega),show(s.1:Int)+(i:Int)=((s.1+i:Nat):Int) by omega,b8B hj,oD,lsE,List.getElem?_cons_zero,oD]
  rw[cvI,oD,hxn,b5j (by omega),c4C,oD,i6 (by omega) (by omega),
   show 8*(i:Int)=((8*i:Nat):Int) by omega,c0o (by omega) (by omega),oD,c7d (by omega) (by omega),oD,c6G e3,C4,oD,i6 (by omega) (by omega)]
  exact⟨n - 1,by omega,by trivial,by trivial,by trivial,i+1,rfl,by omega,by rw[hsn]⟩
 ·have hi:i=f.size:=by omega
  subst hi
  rw[←hu]
  rw[C4,oD,i6 (by omega) (by omega)]
  refine bk.st (clI _ _) ⟨rfl,by decide,by simp[rrC]⟩ fun a'=> ?_
  rw[show j4 (rrC bs (s.1:Int) s.2) 1 [.int .i64 ((s.1:Int)+(f.size:Int))]=rrC bs ((s.1:Int)+(f.size:Int)) s.2 from rfl]
  have c2:D3 (S1.set k ⟨3,[rrC bs ((s.1:Int)+(f.size:Int)) s.2],a'⟩) k 3 (rrC bs ((s.1:Int)+(f.size:Int)) s.2):=D3.new
  have f0:=b0.set_ne (o:=⟨3,[rrC bs ((s.1:Int)+(f.size:Int)) s.2],a'⟩) (Ne.symm d)
  have e2:∀j,j≠k→(S1.set k ⟨3,[rrC bs ((s.1:Int)+(f.size:Int)) s.2],a'⟩) j=S1 j:=fun j hj=>b5.set_ne _ _ _ hj
  generalize (S1.set k ⟨3,[rrC bs ((s.1:Int)+(f.size:Int)) s.2],a'⟩)=S2 at*
  have tail:∀w:Int,w=upR f u→F3 E w0 (b9 E fun v S'=>v= .int .i64 (w9 bs f s).1∧a3X S' k bs (w9 bs f s).2∧∀j,j≠k→S' j=S j) (.ptr k 0) (.ptr k0 0) (.int .u64 w) S2:=fun w hw=>by
   refine a2L ?_
   unfold a0x
   rw[f0.all (n:=4) (by decide) rfl,oD,cvI,oD]
   refine b4S.use ?_
   rw[unN,oD,cdB]
   have hrd:=c9g hf hult
   rw[←hw]at hrd
   refine⟨fun hm=> ?_,fun hm=> ?_⟩
   ·have hm:f.may (IntKind.i64.wrap w)=false:=by simpa using hm
    rw[hm,if_neg (by decide)]at hrd
    rw[hrd]at hur
    simp only[ndP,ofP,oD,Nat.zero_add]
    refine c2.st (clI _ _) ⟨rfl,by decide,by simp[rrC]⟩ fun a2=> ?_
    exact fin (s':=(s.1,120)) (p':=(s.1:Int)+(f.size:Int)) D3.new (fun h=>by cases h) (fun j hj=>by rw[b5.set_ne _ _ _ hj,e2 j hj]) hur
   ·have hm:f.may (IntKind.i64.wrap w)=true:=by simpa using hm
    rw[if_pos hm]at hrd
    rw[hrd]at hur
    rw[oD]
    exact fin (s':=(s.1+f.size,0)) (p':=(s.1:Int)+(f.size:Int)) (by rw[←he];exact c2) (fun _=>by simp) e2 hur
  have q3:(a2e f)[3]? =some (.bool (decide (f.lo<0))):=rfl
  have q0:(a2e f)[0]? =some (.int .i64 (f.size:Int)):=rfl
  simp only[f0.ld,q3,q0,oD]
  have hup:∀c:Prop,[Decidable c]→(c↔(f.lo<0∧f.size<8∧u / 2^(8*f.size - 1)=1))→upR f u=if c then IntKind.u64.wrap ((u:Int) - 2^(8*f.size)) else u:=fun c _ h=>by
   unfold upR;simp only[h]
  by_cases c0:f.lo<0
  ·by_cases c8:f.size<8
   ·have e8:decide ((f.size:Int)<8)=true:=decide_eq_true (by omega)
    have h56:=d0s c8
    simp only[decide_eq_true c0,wdB,vdT,oD,pdB,if_true,ofP,Nat.zero_add,f0.ld,q0,M7,e8,c4C,a0M,show((true==true)=true) from rfl]
    rw[i6 (n:=8*(f.size:Int)) (by omega) (by omega),i6 (by omega) (by omega),show(8*(f.size:Int) - 1)=((8*f.size - 1:Nat):Int) by omega,c7R (by omega),oD,a2Z,oD]
    rw[cdB]
    refine⟨fun hq=> ?_,fun hq=> ?_⟩
    ·have hq:u / 2^(8*f.size - 1)=1:=by have:((u / 2^(8*f.size - 1):Nat):Int)=1:=by simpa using hq
                                        omega
     rw[show 8*(f.size:Int)=((8*f.size:Nat):Int) by omega]
     have e1':d5 .shl (.int .u64 1) (.int .i64 ((8*f.size:Nat):Int))=some (.int .u64 ((2^(8*f.size):Nat):Int)):=by
      have:=c0o (a:=1) (i:=8*f.size) (by omega) (by omega)
      rw[Nat.one_mul]at this
      exact this
     rw[e1',oD,a0M,oD]
     refine tail _ ?_
     rw[hup True ⟨fun _=>⟨c0,c8,hq⟩,fun _=>trivial⟩,if_pos trivial]
     congr 1
    ·have hq:¬u / 2^(8*f.size - 1)=1:=by have:¬((u / 2^(8*f.size - 1):Nat):Int)=1:=by simpa using hq
                                         omega
     refine tail _ ?_
     rw[hup False ⟨fun h=>h.elim,fun h=>hq h.2.2⟩,if_neg id]
   ·have e8:decide ((f.size:Int)<8)=false:=decide_eq_false (by omega)
    simp only[decide_eq_true c0,wdB,vdT,vdF,oD,pdB,if_true,ofP,Nat.zero_add,f0.ld,q0,M7,e8,Bool.false_eq_true,if_false,show((true==true)=true) from rfl,show((false==true)=false) from rfl,cdF]
    refine tail _ ?_
    rw[hup False ⟨fun h=>h.elim,fun h=>c8 h.2.1⟩,if_neg id]
  ·simp only[decide_eq_false c0,wdB,vdF,oD,pdB,Bool.false_eq_true,if_false,show((false==true)=false) from rfl,cdF]
   refine tail _ ?_
   rw[hup False ⟨fun h=>h.elim,fun h=>c0 h.1⟩,if_neg id]
end
end
section
theorem a3X.of{S T:b5}{k:Nat}{bs:List Int}{s:Nat×Int}(h:a3X S k bs s)(e:T k=S k):a3X T k bs s:=by
 obtain⟨p,c,hp⟩:=h;exact⟨p,c.of e,hp⟩
theorem a3X.set{S:b5}{k l:Nat}{bs:List Int}{s:Nat×Int}{o:A2}(h:a3X S k bs s)(hn:S l=none):a3X (S.set l o) k bs s:=by
 obtain⟨p,c,hp⟩:=h;exact⟨p,c.set hn,hp⟩
theorem a3X.ne{S:b5}{k l sz:Nat}{bs:List Int}{s:Nat×Int}{c:List D}(h:a3X S k bs s)(h':D3 S l sz c)(hs:sz≠3):l≠k:=by
 obtain⟨p,c,hp⟩:=h;exact h'.ne c hs
theorem a3X.some{S:b5}{k:Nat}{bs:List Int}{s:Nat×Int}(h:a3X S k bs s):S k≠none:=by
 obtain⟨p,c,hp⟩:=h;exact c.there
theorem c7B(bs:List Int)(s:Nat×Int):0≤(w9 bs fIx s).1∧(w9 bs fIx s).1≤65535:=by
 rcases c4Z bs fIx s with h|h
 ·omega
 ·exact of_decide_eq_true h
theorem d0j(w:Int):(if 0<R3 w∧R3 w<64 then[D.int .i64 8, .int .i64 (-(2^(R3 w - 1).toNat)), .int .i64 (2^(R3 w - 1).toNat - 1), .bool true]else[D.int .i64 8, .int .i64 (-9223372036854775808), .int .i64 9223372036854775807, .bool true])=if 0<R3 w then a2e (Op.vF w) else[D.int .i64 8, .int .i64 (-9223372036854775808), .int .i64 9223372036854775807, .bool true]:=by
 unfold R3 a2e Op.vF a0Y a1a
 by_cases h1:w=1
 ·subst h1;rfl
 by_cases h2:w=2
 ·subst h2;rfl
 by_cases h3:w=3
 ·subst h3;rfl
 ·simp[h1,h2,h3]
section
variable{E:g8}{w0:j0}
theorem b7C{bs:List Int}(hb:∀b∈bs,J0 b)(hl:bs.length<2^30){s:Nat×Int}(hs:s.1≤bs.length){a:Int}(ha:s.2=0→0<R3 (IntKind.u8.wrap a)){S:b5}{k:Nat}(hk:a3X S k bs s):
  p8 Try.prog E w0 a0f [.ptr k 0, .int .i64 a] S fun v S'=>∃av,v=a5e (A5 bs (IntKind.u8.wrap a) (w9 bs fIx s).1.toNat (w9 bs fIx s).2 []).1∧a3X S' k bs (A5 bs (IntKind.u8.wrap a) (w9 bs fIx s).1.toNat (w9 bs fIx s).2 []).2∧(∀j,j≠k→S j≠none→S' j=S j)∧av=S' k:=by
 refine a6J ?_
 unfold a2I
 refine a1c.use ((K0 hb hl hs c7H hk).use ?_)
 rintro v S1 ⟨rfl,r1,e1⟩
 have hs1:=a2z (f:=fIx) hs
 obtain⟨hn0,hn1⟩:=c7B bs s
 obtain⟨N,hN⟩:∃N:Nat,(w9 bs fIx s).1=(N:Int):=⟨(w9 bs fIx s).1.toNat,by omega⟩
 have hNt:(w9 bs fIx s).1.toNat=N:=by omega
 rw[hNt,hN]
 obtain⟨w,hw⟩:∃w,w=IntKind.u8.wrap a:=⟨_,rfl⟩
 rw[cvI,oD, ←hw]
 refine b7D.use ?_
 rw[show B3 (l8 [(D.int .i64 0),(.int .i64 0),(.int .i64 0),(.bool false)] [(0,1,(.int .i64 8)),(1,1,(.int .i64 (-9223372036854775808))),(2,1,(.int .i64 9223372036854775807)),(3,1,(.bool true))])=some (.agg [D.int .i64 8, .int .i64 (-9223372036854775808), .int .i64 9223372036854775807, .bool true]) from rfl,oD]
 intro k8 a8 n8
 refine(D3.new (sz:=4) (c:=[(D.int .i64 0),(.int .i64 0),(.int .i64 0),(.bool false)])).st (clA _) ⟨rfl,by decide,by decide⟩ fun a8=> ?_
 rw[b5.set_set,show j4 [(D.int .i64 0),(.int .i64 0),(.int .i64 0),(.bool false)] 0 [D.int .i64 8, .int .i64 (-9223372036854775808), .int .i64 9223372036854775807, .bool true]=[D.int .i64 8, .int .i64 (-9223372036854775808), .int .i64 9223372036854775807, .bool true]from rfl]
 have go:∀ {c8:List D} {a8:List AV},c8=(if 0<R3 w∧R3 w<64 then[D.int .i64 8, .int .i64 (-(2^(R3 w - 1).toNat)), .int .i64 (2^(R3 w - 1).toNat - 1), .bool true]else[D.int .i64 8, .int .i64 (-9223372036854775808), .int .i64 9223372036854775807, .bool true])→
   I1 E w0 (b9 E fun v S'=>∃av,v=a5e (A5 bs w N (w9 bs fIx s).2 []).1∧a3X S' k bs (A5 bs w N (w9 bs fIx s).2 []).2∧(∀j,j≠k→S j≠none→S' j=S j)∧av=S' k) (.ptr k 0) (.int .i64 (N:Int)) (.ptr k8 0) (S1.set k8 ⟨4,[c8],a8⟩):=fun{c8 a8} hc8=>by
  refine a4c ?_
  unfold a1l
  have r2:a3X (S1.set k8 ⟨4,[c8],a8⟩) k bs (w9 bs fIx s).2:=r1.set n8
  have h8:D3 (S1.set k8 ⟨4,[c8],a8⟩) k8 4 c8:=D3.new
  have ek:∀j,j≠k→S j≠none→(S1.set k8 ⟨4,[c8],a8⟩) j=S j:=fun j hj hn=>by
   rw[b5.set_ne _ _ _ (fun e=>hn (by rw[←e1 j hj,e];exact n8)),e1 j hj]
  have hc:(w9 bs fIx s).2.2=0→c8=a2e (Op.vF w):=fun h=>by
   have:=ha (b2o h)
   rw[hc8,d0j,if_pos (by rw[hw];exact this)]
  have d8:k8≠k:=r2.ne h8 (by decide)
  generalize hS2:S1.set k8 ⟨4,[c8],a8⟩=S2 at*
  have hle0:(S.erase k).le S2:=fun j o e=>by
   unfold b5.erase at e
   split at e
   ·cases e
   ·rename_i hj;rw[ek j hj (by rw[e];simp)];exact e
  refine a4H (I:=fun n x0 x5 x7 x8 x9 T=>x0= .ptr k 0∧x5= .int .i64 (N:Int)∧x7= .ptr k8 0∧∃(i:Nat) (acc:List (Int×Int)) (s':Nat×Int),x9= .int .i64 (i:Int)∧i+n=N∧acc.length=i∧s'.1≤bs.length∧a3X T k bs s'∧D3 T k8 4 c8∧(s'.2=0→c8=a2e (Op.vF w))∧(∀j,j≠k→S j≠none→T j=S j)∧
    O4 S [k,k8] x8 (acc.map Y1) 2 T∧(S.erase k).le T∧A5 bs w n s' acc=A5 bs w N (w9 bs fIx s).2 []) ?_ (n:=N)
   ⟨rfl,rfl,rfl,0,[],_,rfl,by omega,rfl,hs1,r2,h8,hc,ek,O4.nil,hle0,rfl⟩
  rintro n _ _ _ x8 _ T ⟨rfl,rfl,rfl,i,acc,s',rfl,hi,hacc,hs',hr,h8',hc',ek',hg,hle,hrd⟩
  unfold U3
  obtain⟨p',cp',hp'⟩:=hr
  have ld2:d9 T (.ptr k 2)=some (.int .i64 s'.2):=cp'.ld 2
  have fin:(n=0∨s'.2≠0)→b9 E (fun v S'=>∃av,v=a5e (A5 bs w N (w9 bs fIx s).2 []).1∧a3X S' k bs (A5 bs w N (w9 bs fIx s).2 []).2∧(∀j,j≠k→S j≠none→S' j=S j)∧av=S' k) x8 T:=fun hend=>by
   have hrd':A5 bs w N (w9 bs fIx s).2 []=(acc,s'):=by
    rw[←hrd]
    rcases hend with rfl|h
    ·rfl
    ·exact b0C h
   rw[hrd']
   rcases hg with ⟨rfl,he⟩|⟨kA,acs,h0,h1,rfl,h3⟩
   ·have:acc=[]:=by simpa using he
    subst this
    exact b9.nil (sz:=2) (b9.here ⟨_,rfl,⟨p',cp',hp'⟩,ek',rfl⟩)
   ·refine b9.freeze h3 rfl (by simp) (Nat.le_refl _) (b9.here ⟨_,by rw[List.drop_zero,List.take_length];rfl,⟨p',cp'.of (b5.erase_ne _ _ fun e=>h1 (by simp[e])),hp'⟩,fun j hj hn=> ?_,rfl⟩)
    rw[b5.erase_ne _ _ (fun e=>hn (by rw[e];exact h0))]
    exact ek' j hj hn
  simp only[M7,oD,ndP,ofP,Nat.zero_add,ld2,a2Z]
  by_cases h0:n=0
  ·have hd:decide ((i:Int)<(N:Int))=false:=decide_eq_false (by omega)
   simp only[hd,wdB,vdF,oD,pdB,Bool.false_eq_true,if_false,cdF,show((false==true)=false) from rfl]
   exact fin (.inl h0)
  have hd:decide ((i:Int)<(N:Int))=true:=decide_eq_true (by omega)
  simp only[hd,wdB,vdT,oD,pdB,if_true,show((true==true)=true) from rfl,ndP,ofP,Nat.zero_add,ld2,a2Z]
  rw[cdB]
  refine⟨fun he=> ?_,fun he=>fin (.inr (by simpa using he))⟩
  have he:s'.2=0:=by simpa using he
  have hcc:=hc' he
  subst hcc
  rw[h8'.all (n:=4) (by decide) rfl,oD]
  refine(K0 hb hl hs' (c4l w) ⟨p',cp',hp'⟩).use ?_
  rintro v T2 ⟨rfl,r3,e3⟩
  have hs3:=a2z (f:=Op.vF w) hs'
  refine a5g.use ((K0 hb hl hs3 a6y r3).use ?_)
  rintro v T3 ⟨rfl,r4,e4⟩
  have hs4:=a2z (f:=E1) hs3
  rw[show B3 (l8 [D.int .i64 0, .int .i64 0] [(0,1, .int .i64 (w9 bs (Op.vF w) s').1),(1,1, .int .i64 (w9 bs E1 (w9 bs (Op.vF w) s').2).1)])=some (.agg (Y1 ((w9 bs (Op.vF w) s').1,(w9 bs E1 (w9 bs (Op.vF w) s').2).1))) from rfl,oD]
  refine E8 (rows:=[Y1 _]) rfl ?_
  have e34:∀j,j≠k→T3 j=T j:=fun j hj=>by rw[e4 j hj,e3 j hj]
  have h8'':=h8'.of (e34 _ d8)
  have hg3:O4 S [k,k8] x8 (acc.map Y1) 2 T3:=hg.of fun j o hj e=>by rw[e34 j (fun e=>hj (by simp[e]))];exact e
  have hle3:(S.erase k).le T3:=fun j o e=>by
   have hj:j≠k:=fun e'=>by rw[e',b5.erase_same]at e;cases e
   rw[e34 j hj];exact hle _ _ e
  have hg4:O4 (S.erase k) [k,k8] x8 (acc.map Y1) 2 T3:=by
   rcases hg3 with h|⟨kA,acs,q0,q1,q2,q3⟩
   ·exact .inl h
   ·exact .inr ⟨kA,acs,(by unfold b5.erase;split;rfl;exact q0),q1,q2,q3⟩
  refine hg4.push hle3 (fun j hj=> ?_) (news:=[Y1 ((w9 bs (Op.vF w) s').1,(w9 bs E1 (w9 bs (Op.vF w) s').2).1)]) (by simp[rowsS,C1]) (by simp) (by simp;omega) fun t' T4 hle4 he4 hg5=> ?_
  ·simp only[List.mem_cons,List.not_mem_nil,or_false]at hj
   rcases hj with rfl|rfl
   ·exact r4.some
   ·exact h8''.there
  rw[C4,oD,i6 (by omega) (by omega)]
  obtain⟨m,rfl⟩:∃m,n=m+1:=⟨n - 1,by omega⟩
  rw[A5,if_neg (by simp[he])]at hrd
  refine⟨m,by omega,by trivial,by trivial,by trivial,i+1,acc++[_],_,rfl,by omega,by simp[hacc],hs4,r4.of (he4 _ (by simp)),h8''.of (he4 _ (by simp)),fun _=>rfl,fun j hj hn=> ?_, ?_,hle4,hrd⟩
  ·by_cases h8e:j=k8
   ·subst h8e;rw[he4 _ (by simp),e34 _ hj];exact ek' j hj hn
   ·obtain⟨o,ho⟩:=Option.ne_none_iff_exists'.1 hn
    rw[ho]
    exact hle4 _ _ (by rw[b5.erase_ne _ _ hj];exact ho)
  ·rw[List.map_append]
   rcases hg5 with h|⟨kA,acs,q0,q1,q2,q3⟩
   ·exact .inl h
   ·refine .inr ⟨kA,acs, ?_,q1,q2,q3⟩
    rw[b5.erase_ne _ _ (fun e=>q1 (by simp[e]))]at q0
    exact q0
 obtain⟨b,hbb,hb4⟩:=c7v w
 simp only[a8g,oD]
 by_cases c0:0<R3 w
 ·simp only[decide_eq_true c0,wdB,vdT,oD,pdB,if_true,M7,show((true==true)=true) from rfl]
  rw[V7]
  refine⟨fun c1=> ?_,fun c1=>go (by rw[if_neg (fun h=>c1 h.2)])⟩
  have hb32:b=8∨b=32:=by omega
  have hbt:(R3 w - 1).toNat=b - 1:=by omega
  rw[a0M,oD,i6 (by omega) (by omega),c4Q _ _ _ _ (by omega),oD]
  have hmin:min (R3 w - 1).toNat IntKind.i64.bits=b - 1:=by
   have:IntKind.i64.bits=64:=rfl
   omega
  rw[hmin]
  have hpw:(1:Nat)≤2^(b - 1)∧2^(b - 1)≤2^31:=⟨Nat.one_le_two_pow,Nat.pow_le_pow_right (by decide) (by omega)⟩
  have hc:(2:Int)^(b - 1)=((2^(b - 1):Nat):Int):=by exact_mod_cast rfl
  rw[hc,i6 (by omega) (by omega),ofP,oD]
  refine(D3.new (sz:=4)).st (clI _ _) ⟨rfl,by decide,by decide⟩ fun a9=> ?_
  rw[b5.set_set,oD,c4Q _ _ _ _ (by omega),oD,hmin,hc,i6 (by omega) (by omega),a0M,oD,i6 (by omega) (by omega),ofP,oD]
  refine(D3.new (sz:=4)).st (clI _ _) ⟨rfl,by decide,by simp[j4]⟩ fun a10=> ?_
  rw[b5.set_set]
  refine go ?_
  rw[if_pos ⟨c0,c1⟩,hbt,hc]
  simp[j4]
 ·simp only[decide_eq_false c0,wdB,vdF,oD,pdB,Bool.false_eq_true,if_false,show((false==true)=false) from rfl,cdF]
  exact go (by rw[if_neg (fun h=>c0 h.1)])
end
end
end Go.Proofs.Ytdkidgkiplcggaa.d
end
