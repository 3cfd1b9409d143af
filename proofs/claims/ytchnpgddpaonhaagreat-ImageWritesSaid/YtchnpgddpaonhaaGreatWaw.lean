/- A part of the proof of ImageWrites. -/
import Derived.Test.YtchnpgddpaonhaaGreatWau
import Derived.Test.YtchnpgddpaonhaaGreatWav
import Derived.Test.YtchnpgddpaonhaaGreatRows
import Derived.Test.YtchnpgddpaonhaaGreatWap
import Derived.KernelRfl
set_option linter.unusedVariables false
set_option linter.unusedSimpArgs false
set_option maxRecDepth 100000
section
namespace Go.Am
def ob:D→List Nat
 | .raw k _ _ _ _ _=>[k]
 |_=>[]
section
variable{S T:b9}{av:List Nat}{t u:D}{rows rows':List (List D)}{sz sz':Nat}
theorem GrA.ob_some(h:GrA S av t rows sz T):∀j∈ob t,T j≠Option.none:=by
 rcases h with ⟨rfl,_⟩|⟨k,acs,_,_,rfl,h3⟩
 ·simp[ob]
 ·simp[ob,h3]
theorem GrA.ob_av(h:GrA S av t rows sz T):∀j∈ob t,j ∉ av:=by
 rcases h with ⟨rfl,_⟩|⟨k,acs,_,h1,rfl,_⟩
 ·simp[ob]
 ·simpa [ob]using h1
theorem GrA.apart(h:GrA S av t rows sz T){T':b9}{av':List Nat}(e:∀j∈ob t,T' j=T j)(ha:∀j∈ob t,j ∉ av'):GrA S av' t rows sz T':=by
 rcases h with h|⟨k,acs,h0,h1,rfl,h3⟩
 ·exact .inl h
 ·exact .inr ⟨k,acs,h0,ha k (by simp[ob]),rfl,by rw[e k (by simp[ob])];exact h3⟩
theorem i9.grA{E:j6}{Q:D→b9→Prop}{pre post:List D}(h:GrA S av t rows sz T)(hle:S.le T)(hQ:∀T',S.le T'→(∀j,j ∉ ob t→T' j=T j)→i9 E Q (.tup (pre++ .lst rows sz::post)) T'):i9 E Q (.tup (pre++t::post)) T:=by
 rcases h with ⟨rfl,rfl⟩|⟨k,acs,h0,h1,rfl,h3⟩
 ·exact i9.nilT (hQ T hle fun _ _=>rfl)
 ·refine i9.freezeT h3 rfl (by simp) (Nat.le_refl _) ?_
  simpa using hQ (T.erase k) (b9.le_erase hle h0) fun j hj=>b9.erase_ne _ _ (by simpa [ob]using hj)
def GrP(S:b9)(av:List Nat)(t:D)(rows:List (List D))(sz:Nat)(u:D)(rows':List (List D))(sz':Nat)(T:b9):Prop:=
 S.le T∧(∀j∈av,T j≠Option.none)∧GrA S (ob u++av) t rows sz T∧GrA S (ob t++av) u rows' sz' T
theorem GrP.nil:GrP S [] .nilSlc [] sz .nilSlc [] sz' S:=⟨b9.le_refl _,by simp,GrA.nil,GrA.nil⟩
theorem GrP.swap(h:GrP S av t rows sz u rows' sz' T):GrP S av u rows' sz' t rows sz T:=⟨h.1,h.2.1,h.2.2.2,h.2.2.1⟩
theorem GrP.push(h:GrP S av t rows sz u rows' sz' T){bytes:Nat}{v:D}{news:List (List D)}(hv:rowsS T sz v=some news)(hn:news≠[])(hb:0<bytes∧(2*(rows.length+news.length)+768)*bytes≤2^47){K:D→b9→Prop}
  (hK:∀t' T',(∀j∈av,T' j=T j)→GrP S av t' (rows++news) sz u rows' sz' T'→K t' T'):r6 T sz bytes t v K:=by
 obtain⟨h1,h2,h3,h4⟩:=h
 refine h3.push h1 (fun j hj=> ?_) hv hn hb fun t' T' hle he hg=>hK t' T' (fun j hj=>he j (List.mem_append_right _ hj)) ⟨hle,fun j hj=> ?_,hg, ?_⟩
 ·rcases List.mem_append.1 hj with hj|hj
  ·exact h4.ob_some j hj
  ·exact h2 j hj
 ·rw[he j (List.mem_append_right _ hj)];exact h2 j hj
 ·refine h4.apart (fun j hj=>he j (List.mem_append_left _ hj)) fun j hj hm=> ?_
  rcases List.mem_append.1 hm with hm|hm
  ·exact hg.ob_av j hm (List.mem_append_left _ hj)
  ·exact h4.ob_av j hj (List.mem_append_right _ hm)
theorem GrP.set(h:GrP S av t rows sz u rows' sz' T){l:Nat}{o:K8}(hl:T l=Option.none):GrP S av t rows sz u rows' sz' (T.set l o):=by
 obtain⟨h1,h2,h3,h4⟩:=h
 exact⟨b9.le_set h1 (b9.none_of h1 hl),fun j hj=>(by rw[b9.set_ne _ _ _ (fun e=>h2 j hj (by rw[e];exact hl))];exact h2 j hj),h3.set (.inr hl),h4.set (.inr hl)⟩
theorem GrP.more(h:GrP S av t rows sz u rows' sz' T){l:Nat}{o:K8}(hl:T l=Option.none):GrP S (l::av) t rows sz u rows' sz' (T.set l o):=by
 have hs:=h.set (o:=o) hl
 have n1:∀j∈ob t,j≠l:=fun j hj e=>h.2.2.1.ob_some j hj (e▸hl)
 have n2:∀j∈ob u,j≠l:=fun j hj e=>h.2.2.2.ob_some j hj (e▸hl)
 refine⟨hs.1,fun j hj=> ?_,hs.2.2.1.apart (fun _ _=>rfl) fun j hj hm=> ?_,hs.2.2.2.apart (fun _ _=>rfl) fun j hj hm=> ?_⟩
 ·rcases List.mem_cons.1 hj with rfl|hj
  ·rw[b9.set_same];simp
  ·exact hs.2.1 j hj
 ·rcases List.mem_append.1 hm with hm|hm
  ·exact hs.2.2.1.ob_av j hj (List.mem_append_left _ hm)
  ·rcases List.mem_cons.1 hm with rfl|hm
   ·exact n1 _ hj rfl
   ·exact hs.2.2.1.ob_av j hj (List.mem_append_right _ hm)
 ·rcases List.mem_append.1 hm with hm|hm
  ·exact hs.2.2.2.ob_av j hj (List.mem_append_left _ hm)
  ·rcases List.mem_cons.1 hm with rfl|hm
   ·exact n2 _ hj rfl
   ·exact hs.2.2.2.ob_av j hj (List.mem_append_right _ hm)
theorem GrP.fin{E:j6}{Q:D→b9→Prop}{post:List D}(h:GrP S av t rows sz u rows' sz' T)(hQ:i9 E Q (.tup (.lst rows sz:: .lst rows' sz'::post)) S):i9 E Q (.tup (t::u::post)) T:=by
 obtain⟨h1,h2,h3,h4⟩:=h
 refine i9.grA (pre:=[]) h3 h1 fun T' hle he=> ?_
 have h4':GrA S (ob t++av) u rows' sz' T':=h4.apart (fun j hj=>he j fun hm=>h3.ob_av j hm (List.mem_append_left _ hj)) fun j hj hm=>h4.ob_av j hj hm
 exact i9.grA (pre:=[.lst rows sz]) h4' hle fun T2 hle2 _=>i9.less hle2 hQ
end
end Go.Am
end
section
open Go.Proofs Go Go.Am Go.Op
namespace Go.Proofs.YtchnpgddpaonhaaGreat.d
section
def c3J(m:Mo):List D:=[a3J m.types,b3z m.texts,c9O m.funcs]
theorem d2x{rows:List (List D)}{row:List D}{sz n:Nat}(h:rows.length=n):J1 sz (.ext rows [row] sz) none (some (.int .i64 ((n+1:Nat):Int))) none=some (.lst (rows++[row]) sz):=by
 subst h
 rw[e1G (by simp),List.take_of_length_le (by simp),List.drop_of_length_le (by simp)]
 rfl
theorem c6S{rows:List (List D)}{row:List D}{sz n:Nat}(h:rows.length=n):p6 sz (.lst (rows++[row]) sz) (.int .i64 (n:Int))=some (.elt row 0):=by
 subst h
 exact b9k (by simp)
theorem d7D{n:Nat}(h:n<2^60):IntKind.i64.wrap ((n:Int)+1)=((n+1:Nat):Int):=by rw[j8 (by omega) (by omega)];omega
theorem e0F{α:Type}{f:α→List D}{l:List α}{more:List (List D)}{sz i:Nat}{y:α}(h:l[i]? =some y):p6 sz (.ext (l.map f) more sz) (.int .i64 (i:Int))=some (.elt (f y) 0):=e2F (by rw[List.getElem?_map,h];rfl)
def a6Z(P:Program)(E:j6)(w0:World)(f:FuncId)(ds:List D)(d:D):Prop:=∀S,o9 P E w0 false f ds S fun d' S'=>d'=d∧S'=S
theorem a6Z.use{P:Program}{E:j6}{w0:World}{f:FuncId}{ds:List D}{d:D}(h:a6Z P E w0 f ds d){S:b9}{K:D→b9→Prop}(hk:K d S):o9 P E w0 false f ds S K:=(h S).use fun d' S' ⟨a,b⟩=>by subst a b;exact hk
section
variable{E:j6}{w0:World}
theorem c1X{m:Mo}(hm:m.Ok):a6Z Tryz.prog E w0 Z7 [moX m,Z0 m] (.bool true):=fun S=>by
 refine b7N ?_
 unfold b2v
 rw[moX,J5,oD]
 intro k c n
 rw[Z0,J5,oD]
 intro k2 c2 n2
 obtain⟨ne2,n2'⟩:=b9.fresh n2
 generalize hS3:(S.set k _).set k2 _=S3
 have h2:S3 k2=some ⟨3,[F8 m],c2⟩:=by rw[←hS3];exact b9.set_same _ _ _
 have h0:S3 k=some ⟨3,[c3J m],c⟩:=by rw[←hS3,b9.set_ne _ _ _ (Ne.symm ne2)];exact b9.set_same _ _ _
 have hle:S.le S3:=by rw[←hS3];exact b9.le_set (b9.le_new n) n2'
 clear hS3 n2
 obtain⟨xa0,xa1,xa2⟩:=b9N m
 have xb0:(c3J m)[0]? =some (a3J m.types):=rfl
 have xb1:(c3J m)[1]? =some (b3z m.texts):=rfl
 have xb2:(c3J m)[2]? =some (c9O m.funcs):=rfl
 have:=hm.types;have:=hm.texts;have:=hm.funcs
 simp only[u5,oD,D5 h2,Nat.zero_add,xa0,xa1,xa2,G6,J9,I9]
 refine⟨by trivial,by trivial,by trivial,by trivial,by trivial,by trivial, ?_⟩
 rw[laP h0 (by simp[c3J]),oD,laP h2 (by simp[F8]),oD]
 refine DF.weak (es:=[Z0 m,Z0 m]) ⟨d1C m,Wk.refl _,trivial⟩ ((c0K hm hm).use ?_)
 rw[decide_eq_true rfl]
 simp only[unN,Bool.not_true,oD,C5,t2,P7,D5 h0,xb0,xb1,xb2,s8]
 rw[d7D (by omega)]
 rw[a3J,d2x (by simp),oD,c6S (by simp),oD]
 simp only[ofE,oD,lsE,Nat.zero_add,show b1G[1]? =some (D.str a1o) from rfl,d7s,beq_self_eq_true,Bool.not_true,C3,Bool.false_eq_true,if_false,C5,t2,P7,D5 h0,xb1,s8]
 rw[d7D (by omega),b3z,d2x (by simp),oD,c6S (by simp),oD]
 simp only[ofE,oD,lsE,Nat.zero_add,List.getElem?_cons_zero,d7s,beq_self_eq_true,Bool.not_true,C3,Bool.false_eq_true,if_false,C5,t2,P7,D5 h0,xb2,s8]
 rw[d7D (by omega),c9O,d2x (by simp),oD,c6S (by simp),oD]
 simp only[ofE,oD,lsE,Nat.zero_add,show b1t[0]? =some (D.str a1o) from rfl,d7s,beq_self_eq_true,Bool.not_true,C3,Bool.false_eq_true,if_false,cdF]
 refine b4I (I:=fun n x2 x3 x5 x7 x8 S'=>S3=S'∧x2= .ptr k 0∧x3= .ptr k2 0∧x5= .int .i64 (m.types.length:Int)∧x7= .int .i64 (m.funcs.length:Int)∧∃i:Nat,x8= .int .i64 (i:Int)∧i+n=m.types.length) ?_ (n:=m.types.length) ⟨rfl,rfl,rfl,rfl,rfl,0,rfl,by omega⟩
 rintro n' _ _ _ _ _ _ ⟨rfl,rfl,rfl,rfl,rfl,i,rfl,hi⟩
 unfold a3p
 rw[A5,oD,B3]
 refine⟨fun hlt=> ?_,fun hge=> ?_⟩
 ·have hlt:i<m.types.length:=by omega
  obtain⟨y,hy⟩:∃y,y=m.types[i]:=⟨_,rfl⟩
  have ea:m.types[i]? =some y:=by rw[List.getElem?_eq_getElem hlt,hy]
  have hyk:=(hm.ty y (by rw[hy];exact List.getElem_mem _)).fields
  have ex:p6 5 (a3J m.types) (.int .i64 (i:Int))=some (.elt (b5q y) 0):=e0F ea
  simp only[u5,oD,D5 h2,D5 h0,Nat.zero_add,xa0,xb0,a0l ea,ex,ofE,lsE,show(B9 y)[2]? =some (O9 y.fields) from rfl,show(b5q y)[2]? =some (d1o y.fields) from rfl,B0,s8]
  rw[d7D (by omega),d1o,d2x (by simp),oD,c6S (by simp),oD]
  simp only[ofE,oD,lsE,Nat.zero_add,show(O1 (a1o,0))[0]? =some (D.str a1o) from rfl,d7s,beq_self_eq_true,Bool.not_true,cdF]
  rw[d7D (by omega)]
  exact⟨n' - 1,by omega,by trivial,by trivial,by trivial,by trivial,by trivial,i+1,rfl,by omega⟩
 clear hge hi
 refine b4Q (I:=fun n x2 x3 x7 x10 S'=>S3.le S'∧x2= .ptr k 0∧x3= .ptr k2 0∧x7= .int .i64 (m.funcs.length:Int)∧∃i:Nat,x10= .int .i64 (i:Int)∧i+n=m.funcs.length) ?_ (n:=m.funcs.length) ⟨b9.le_refl _,rfl,rfl,rfl,0,rfl,by omega⟩
 clear i n'
 rintro n' _ _ _ _ S4 ⟨hle4,rfl,rfl,rfl,i,rfl,hi⟩
 have h04:=hle4 _ _ h0
 have h24:=hle4 _ _ h2
 unfold a2Z
 rw[A5,oD,B3]
 refine⟨fun hlt=> ?_,fun hge=>i9.less (b9.le_trans hle hle4) i9.pure⟩
 have hlt:i<m.funcs.length:=by omega
 obtain⟨y,hy⟩:∃y,y=m.funcs[i]:=⟨_,rfl⟩
 have ea:m.funcs[i]? =some y:=by rw[List.getElem?_eq_getElem hlt,hy]
 have hyk:=hm.ro y (by rw[hy];exact List.getElem_mem _)
 have ex:p6 6 (c9O m.funcs) (.int .i64 (i:Int))=some (.elt (a5X y) 0):=e0F ea
 have lx:∀S:b9,j2 S 6 (.elt (a5X y) 0)=some (.agg (a5X y)):=fun _=>rfl
 have rest:∀(ka kb:Nat) (S5:b9) (aa ab:List AV),S4.le S5→S5 ka=some ⟨6,[a5X y],aa⟩→S5 kb=some ⟨6,[F9 y],ab⟩→Z1 E w0 false (fun x2 x3 x7 x10 S'=>∃m_1,m_1<n'∧S3.le S'∧x2= .ptr k 0∧x3= .ptr k2 0∧x7= .int .i64 (m.funcs.length:Int)∧∃i:Nat,x10= .int .i64 (i:Int)∧i+m_1=m.funcs.length) (i9 E fun d' S'=>d'= .bool true∧S'=S) (.ptr k 0) (.ptr k2 0) (.int .i64 (m.funcs.length:Int)) (.int .i64 (i:Int)) (.ptr ka 0) (.ptr kb 0) S5:=by
  intro ka kb S5 aa ab l5 ha hb
  refine b2J ?_
  unfold a6S
  have p1:=hyk.params;have p2:=hyk.results;have p3:=hyk.code
  simp only[u5,oD,D5 ha,D5 hb,Nat.zero_add,show(a5X y)[1]? =some (iX y.params) from rfl,show(F9 y)[1]? =some (iD y.params) from rfl]
  refine(b4A (by omega)).use ?_
  simp only[unN,Bool.not_true,oD,C5,t2,P7,D5 ha,D5 hb,show(a5X y)[2]? =some (iX y.results) from rfl,show(F9 y)[2]? =some (iD y.results) from rfl,gdT]
  refine(b4A (by omega)).use ?_
  simp only[unN,Bool.not_true,oD,C5,t2,P7,C3,Bool.false_eq_true,if_false,D5 ha,D5 hb,show(a5X y)[5]? =some (bX y.code) from rfl,show(F9 y)[5]? =some (bD y.code) from rfl,gdT]
  refine(c6z (by omega)).use ?_
  simp only[unN,Bool.not_true,oD,C3,Bool.false_eq_true,if_false,cdF,s8]
  rw[d7D (by omega)]
  exact⟨n' - 1,by omega,b9.le_trans hle4 l5,by trivial,by trivial,by trivial,i+1,rfl,by omega⟩
 refine⟨rfl, ?_, ?_,trivial⟩
 ·simp only[u5,oD,D5 h04,D5 h24,Nat.zero_add,xa2,xb2,ex,a1k ea,lx,d0n]
  refine⟨by trivial,by trivial,by trivial,by trivial, ?_⟩
  intro k5 a5 n5
  have nk:k≠k5:=fun e=>by rw[←e,h04]at n5;cases n5
  have nk2:k2≠k5:=fun e=>by rw[←e,h24]at n5;cases n5
  have f5:∀ {S':b9} {o:K8},S' k=S4 k→(S'.set k5 o) k=S4 k:=fun h=>by rw[b9.set_ne _ _ _ nk];exact h
  have f5':∀ {S':b9} {o:K8},S' k2=S4 k2→(S'.set k5 o) k2=S4 k2:=fun h=>by rw[b9.set_ne _ _ _ nk2];exact h
  refine⟨⟨f5 rfl,trivial,f5' rfl,trivial,trivial⟩, ?_⟩
  intro k6 a6 n6
  obtain⟨ne6,n6'⟩:=b9.fresh n6
  have mk:k≠k6:=fun e=>by rw[←e,h04]at n6';cases n6'
  have mk2:k2≠k6:=fun e=>by rw[←e,h24]at n6';cases n6'
  have f6:∀ {S':b9} {o:K8},S' k=S4 k→(S'.set k6 o) k=S4 k:=fun h=>by rw[b9.set_ne _ _ _ mk];exact h
  have f6':∀ {S':b9} {o:K8},S' k2=S4 k2→(S'.set k6 o) k2=S4 k2:=fun h=>by rw[b9.set_ne _ _ _ mk2];exact h
  refine⟨⟨f6 (f5 rfl),trivial,f6' (f5' rfl),trivial,trivial⟩, ?_⟩
  refine stP (ds:=a5X y) (by rw[b9.set_ne _ _ _ (Ne.symm ne6)];exact b9.set_same _ _ _) (J5 _) ⟨rfl,by decide,by simp[a5X]⟩ fun a7=> ?_
  refine⟨⟨f5' (f6' (f5' rfl)),trivial,trivial⟩, ?_⟩
  refine stP (ds:=F9 y) (by rw[b9.set_ne _ _ _ ne6];exact b9.set_same _ _ _) (J5 _) ⟨rfl,by decide,by simp[F9]⟩ fun a8=>⟨by trivial, ?_⟩
  refine rest k5 k6 _ a7 a8 ?_ (by rw[b9.set_ne _ _ _ (Ne.symm ne6)];exact b9.set_same _ _ _) (b9.set_same _ _ _)
  exact b9.le_set (b9.le_set (b9.le_set (b9.le_new n5) n6') n5) n6'
 ·simp only[u5,oD,D5 h04,D5 h24,Nat.zero_add,xa2,xb2,ex,a1k ea,lx,d0n]
  refine⟨by trivial,by trivial,by trivial,by trivial, ?_⟩
  intro k5 a5 n5
  have nk:k≠k5:=fun e=>by rw[←e,h04]at n5;cases n5
  have nk2:k2≠k5:=fun e=>by rw[←e,h24]at n5;cases n5
  have f5:∀ {S':b9} {o:K8},S' k=S4 k→(S'.set k5 o) k=S4 k:=fun h=>by rw[b9.set_ne _ _ _ nk];exact h
  have f5':∀ {S':b9} {o:K8},S' k2=S4 k2→(S'.set k5 o) k2=S4 k2:=fun h=>by rw[b9.set_ne _ _ _ nk2];exact h
  refine⟨⟨f5 rfl,trivial,f5' rfl,trivial,trivial⟩, ?_⟩
  intro k6 a6 n6
  obtain⟨ne6,n6'⟩:=b9.fresh n6
  have mk:k≠k6:=fun e=>by rw[←e,h04]at n6';cases n6'
  have mk2:k2≠k6:=fun e=>by rw[←e,h24]at n6';cases n6'
  have f6:∀ {S':b9} {o:K8},S' k=S4 k→(S'.set k6 o) k=S4 k:=fun h=>by rw[b9.set_ne _ _ _ mk];exact h
  have f6':∀ {S':b9} {o:K8},S' k2=S4 k2→(S'.set k6 o) k2=S4 k2:=fun h=>by rw[b9.set_ne _ _ _ mk2];exact h
  refine⟨⟨f6 (f5 rfl),trivial,f6' (f5' rfl),trivial,trivial⟩, ?_⟩
  refine stP (ds:=a5X y) (b9.set_same _ _ _) (J5 _) ⟨rfl,by decide,by simp[a5X]⟩ fun a7=> ?_
  refine⟨⟨f6' (f6' (f5' rfl)),trivial,trivial⟩, ?_⟩
  rw[b9.set_set]
  refine stP (ds:=F9 y) (by rw[b9.set_ne _ _ _ (Ne.symm ne6)];exact b9.set_same _ _ _) (J5 _) ⟨rfl,by decide,by simp[F9]⟩ fun a8=>⟨by trivial, ?_⟩
  refine rest k6 k5 _ a7 a8 ?_ (by rw[b9.set_ne _ _ _ ne6];exact b9.set_same _ _ _) (b9.set_same _ _ _)
  exact b9.le_set (b9.le_set (b9.le_new n5) n6') n5
end
end
section
def a7j(d:Dat):In:=⟨d.1,d.2.1,d.2.2.1,d.2.2.2⟩
theorem d8L(d:Dat):(a7j d).dat=d:=rfl
def b4T(l:List In):D:= .lst (l.map J2) 4
def b9R(r:Dat×(Nat×Int)):D:= .tup [inD (a7j r.1), .int .i64 (r.2.1:Int), .int .i64 r.2.2]
def a9u(l:List (Dat×Nat)):List In:=l.map fun x=>a7j x.1
def a9A(l:List (Dat×Nat)):List Int:=l.map fun x=>(x.2:Int)
def d5m(r:Except Int (List (Dat×Nat))):D:=match r with
 | .ok l=> .tup [b4T (a9u l),iD (a9A l), .int .i64 0]
 | .error e=> .tup [b4T [],iD [], .int .i64 e]
abbrev b3T(bs:List Int):Except Int (List (Dat×Nat)):=b7V bs (bs.length+1) 0
theorem c3j{bs:List Int}{n p:Nat}(hp:p<bs.length):b7V bs (n+1) p=if(B6 bs p).2.2=0 then(match b7V bs n (B6 bs p).2.1 with| .ok l=> .ok (((B6 bs p).1,p)::l)| .error e=> .error e) else .error (B6 bs p).2.2:=by
 rw[b7V,if_neg (by omega)]
 all_goals rfl
theorem d0Y{done:List (Dat×Nat)}{x:Dat×Nat}(r:Except Int (List (Dat×Nat))):d2e done (match r with| .ok l=> .ok (x::l)| .error e=> .error e)=d2e (done++[x]) r:=by
 cases r with
 |error e=>rfl
 |ok l=>simp[d2e]
theorem c9k{bs:List Int}(hb:∀b∈bs,Y9 b){p:Nat}(h:(B6 bs (p:Int)).2.2=0):(a7j (B6 bs p).1).Ok∧p<(B6 bs p).2.1∧(B6 bs p).2.1≤bs.length:=by
 obtain⟨_,_,h3,_,hsg,hnx⟩:=e0l hb h (d8L _)
 rw[Int.toNat_natCast]at hnx hsg
 have:=e0o (a7j (B6 bs p).1)
 have:=hsg.1
 exact⟨h3,by omega,by omega⟩
section
variable{E:j6}{w0:World}
theorem d8m{k sz:Nat}{rows:List (List D)}{acs:List AV}:Am.frz k ⟨sz,rows,acs⟩ (.raw k 0 rows.length rows.length false sz)= .lst rows sz:=by
 rw[d6v (by omega) (Nat.le_refl _),List.drop_zero,List.take_length]
theorem d0E{bs:List Int}(hb:∀b∈bs,Y9 b)(hl:bs.length<2^30){n:Int}:a6Z Tryz.prog E w0 a7p [bD bs, .int .i64 n] (b9R (B6 bs n)):=fun S=>
 (c7g hb hl).fin fun v S' ⟨t,ev,g⟩=>by
  subst ev
  rcases g with ⟨rfl,e,rfl⟩|⟨k,acs,h0,rfl,rfl⟩
  ·refine i9.weak (d':=b9R (B6 bs n)) ?_ i9.pure
   refine Wk.tup ⟨Wk.agg ⟨Wk.refl _,Wk.refl _,Wk.refl _, ?_,trivial⟩,Wk.refl _,Wk.refl _,trivial⟩
   have:a7v (a7j (B6 bs n).1).arms= .lst [] 2:=by unfold a7v;rw[show(a7j (B6 bs n).1).arms=(B6 bs n).1.2.2.2 from rfl,e]
   rw[this]
   exact Wk.nil 2
  ·refine i9.frz h0 ?_
   have:Am.frz k ⟨2,(B6 bs n).1.2.2.2.map a0g,acs⟩ (d2r (B6 bs n) (.raw k 0 ((B6 bs n).1.2.2.2.map a0g).length ((B6 bs n).1.2.2.2.map a0g).length false 2))=b9R (B6 bs n):=by
    have e:∀(o:K8) (a b c d e:Int) (tt:D),Am.frz k o (.tup [.agg [.int .u8 a, .int .i64 b, .int .i64 c,tt], .int .i64 d, .int .i64 e])= .tup [.agg [.int .u8 a, .int .i64 b, .int .i64 c,Am.frz k o tt], .int .i64 d, .int .i64 e]:=by
     intros;simp only[Am.frz,Am.c8u]
    unfold d2r L0
    rw[e,d8m]
    rfl
   rw[this]
   exact i9.pure
theorem d4Y{bs:List Int}(hb:∀b∈bs,Y9 b)(hl:bs.length<2^30):a6Z Tryz.prog E w0 c2U [bD bs] (d5m (b3T bs)):=fun S=>by
 refine d2G ?_
 unfold d0T
 refine c8K (I:=fun n x0 x5 x6 x7 T=>x0=bD bs∧∃(p:Nat) (done:List (Dat×Nat)),x7= .int .i64 (p:Int)∧p≤bs.length∧bs.length<p+n∧done.length≤p∧GrP S [] x5 ((a9u done).map J2) 4 x6 (iC (a9A done)) 1 T∧b3T bs=d2e done (b7V bs n p)) ?_ (n:=bs.length+1)
  ⟨rfl,0,[],rfl,by omega,by omega,by simp,GrP.nil,by unfold b3T;cases b7V bs (bs.length+1) 0<;>rfl⟩
 rintro n _ x5 x6 _ T ⟨rfl,p,done,rfl,hp,hpn,hdl,hg,hrun⟩
 unfold b5H
 rw[I8,oD,A5,oD,B3]
 obtain⟨n,rfl⟩:∃m,n=m+1:=⟨n - 1,by omega⟩
 refine⟨fun hlt=> ?_,fun hge=> ?_⟩
 ·have hlt:p<bs.length:=by omega
  rw[c3j hlt]at hrun
  refine(d0E hb hl).use ?_
  unfold b9R
  simp only[exD,List.getElem?_cons_zero,List.getElem?_cons_succ,oD]
  intro k a nk
  refine(w9.new (sz:=4) (c:=[.int .u8 0, .int .i64 0, .int .i64 0, .nilSlc])).st (ds:=J2 (a7j (B6 bs p).1)) (J5 _) ⟨rfl,by decide,by decide⟩ fun a'=> ?_
  rw[b9.set_set,show o0 [.int .u8 0, .int .i64 0, .int .i64 0, .nilSlc] 0 (J2 (a7j (B6 bs p).1))=J2 (a7j (B6 bs p).1) from rfl,b7I,oD,c8a,B3]
  have hg2:=hg.set (o:=⟨4,[J2 (a7j (B6 bs p).1)],a'⟩) nk
  refine⟨fun he=> ?_,fun he=> ?_⟩
  ·rw[if_neg he]at hrun
   rw[hrun]
   refine i9.less hg2.1 (i9.weak (d':= .tup [b4T [],iD [], .int .i64 (B6 bs p).2.2]) (Wk.tup ⟨Wk.nil 4,Wk.nil 1,Wk.refl _,trivial⟩) i9.pure)
  ·have he:(B6 bs p).2.2=0:=Classical.not_not.1 he
   obtain⟨_,h1,h2⟩:=c9k hb he
   rw[if_pos he,d0Y]at hrun
   rw[(w9.new).all (n:=4) (by decide) rfl,oD,show m9 4 (List.replicate 1 [(D.int .u8 0),(.int .i64 0),(.int .i64 0), .nilSlc]) [(0, .agg (J2 (a7j (B6 bs p).1)))]=some [J2 (a7j (B6 bs p).1)]from rfl]
   refine F5 rfl ?_
   refine hg2.push (news:=[J2 (a7j (B6 bs p).1)]) (by simp[rowsS,L2]) (by simp) (by simp[a9u];omega) fun t' T' _ hg3=> ?_
   rw[show m9 1 (List.replicate 1 [D.int .i64 0]) [(0, .int .i64 (p:Int))]=some (iC [(p:Int)]) from rfl]
   refine F5 rfl ?_
   refine hg3.swap.push (news:=iC [(p:Int)]) (by simp[rowsS,L2]) (by simp[iC,y9]) (by simp[a9A];omega) fun u' T2 _ hg4=> ?_
   refine⟨n,by omega,by trivial,(B6 bs p).2.1,done++[((B6 bs p).1,p)],rfl,h2,by omega,by simp;omega, ?_,hrun⟩
   have e1:(a9u (done++[((B6 bs p).1,p)])).map J2=(a9u done).map J2++[J2 (a7j (B6 bs p).1)]:=by simp[a9u]
   have e2:iC (a9A (done++[((B6 bs p).1,p)]))=iC (a9A done)++iC [(p:Int)]:=by rw[←a3y];simp[a9A]
   rw[e1,e2]
   exact hg4.swap
 ·have e0:b7V bs (n+1) p= .ok []:=by rw[b7V,if_pos (by omega)]
  rw[e0]at hrun
  rw[hrun]
  refine hg.fin ?_
  have:d5m (d2e done (.ok []))= .tup [.lst ((a9u done).map J2) 4, .lst (iC (a9A done)) 1, .int .i64 0]:=by simp[d5m,d2e,b4T,iD]
  rw[this]
  exact i9.pure
end
theorem d3v{bs:List Int}(hb:∀b∈bs,Y9 b):∀(n p:Nat) (l:List (Dat×Nat)),b7V bs n p= .ok l→p≤bs.length→l.length+p≤bs.length∧∀x∈l,(a7j x.1).Ok
 |0,p,l,h,hp=>by cases h;exact⟨by simpa using hp,by simp⟩
 |n+1,p,l,h,hp=>by
  by_cases hlt:p<bs.length
  ·rw[c3j hlt]at h
   split at h
   ·rename_i he
    obtain⟨h1,h2,h3⟩:=c9k hb he
    split at h
    ·rename_i l' e
     cases h
     obtain⟨g1,g2⟩:=d3v hb n _ l' e h3
     refine⟨by simp only[List.length_cons];omega,fun x hx=> ?_⟩
     rcases List.mem_cons.1 hx with rfl|hx
     ·exact h1
     ·exact g2 x hx
    ·cases h
   ·cases h
  ·have e0:b7V bs (n+1) p= .ok []:=by rw[b7V,if_pos (by omega)]
   rw[e0]at h
   cases h
   exact⟨by simpa using hp,by simp⟩
def b1N(r:Except Int (List (Dat×Nat))):List In×List Int×Int:=match r with
 | .ok l=>(a9u l,a9A l,0)
 | .error e=>([],[],e)
theorem d6M(r:Except Int (List (Dat×Nat))):d5m r= .tup [b4T (b1N r).1,iD (b1N r).2.1, .int .i64 (b1N r).2.2]:=by cases r<;>rfl
theorem d6q{bs:List Int}(hb:∀b∈bs,Y9 b):(∀y∈(b1N (b3T bs)).1,y.Ok)∧(b1N (b3T bs)).1.length≤bs.length∧(b1N (b3T bs)).2.1.length≤bs.length:=by
 cases h:b3T bs with
 |error e=>exact⟨by simp[b1N],by simp[b1N],by simp[b1N]⟩
 |ok l=>
  obtain⟨h1,h2⟩:=d3v hb _ 0 l h (Nat.zero_le _)
  refine⟨fun y hy=> ?_,by simp[b1N,a9u];omega,by simp[b1N,a9A];omega⟩
  obtain⟨x,hx,rfl⟩:=List.mem_map.1 hy
  exact h2 x hx
end
end Go.Proofs.YtchnpgddpaonhaaGreat.d
end
section
open Go.Proofs Go Go.Am
namespace Go.Proofs.YtchnpgddpaonhaaGreat.d
variable{E:j6}{w0:World}{x:Bool}{Q:D→b9→Prop}
def d2I:List (Nat×List Nat):=[]
def d2V:List (Nat×List Nat):=[]
def c4Q(E:j6)(w0:World)(x:Bool)(Q:D→b9→Prop)(a0 a1 a2:D)(S:b9):Prop:=
 b7 (q6 a0) fun cs=>m8 S cs fun v0 S1=>
 m8 S1 [(.int .u8 0),(.str []), .nilSlc,(.int .i64 0),(.int .i64 0)] fun v2 S3=>
 b7 (i6 .lss a1 (.int .i64 16)) fun v4=>
 b7 (i4 (i0 v4 false) (some a1)) fun v5=>
 b7 (i4 (i0 v4 false) (i6 .sub v5 (.int .i64 16))) fun v6=>
 b7 (i4 (i0 v4 false) (i5 0 v0)) fun v7=>
 b7 (i4 (i0 v4 false) (b8 S3 v7)) fun v8=>
 b7 (i4 (i0 v4 false) (l9 v8)) fun v9=>
 b7 (i4 (i0 v4 false) (i6 .geq v6 v9)) fun v10=>
 b7 (o7 v4 (.bool true) v10) fun v11=>
 j1 v11
 (b7 (B8 (s5 [(.int .u8 0),(.str []), .nilSlc,(.int .i64 0),(.int .i64 0)] [])) fun v12=>
 j7 S3 5 v2 v12 fun v13 S14=>
 b7 (j2 S14 5 v2) fun v15=>Q (.tup [v15,(.bool false)]) S14)
 (b7 (i5 0 v0) fun v16=>
 b7 (b8 S3 v16) fun v17=>
 b7 (i6 .sub a1 (.int .i64 16)) fun v18=>
 b7 (p6 5 v17 v18) fun v19=>
 b7 (j2 S3 5 v19) fun v20=>
 m8 S3 [(.int .u8 0),(.str []), .nilSlc,(.int .i64 0),(.int .i64 0)] fun v21 S22=>
 j7 S22 5 v21 v20 fun v23 S24=>
 b7 (j2 S24 5 v21) fun v25=>(True)∧
 b7 (i5 0 v21) fun v26=>
 b7 (b8 S24 v26) fun v27=>(True)∧
 DF E (J6 Tryz.prog E w0) Z8 [a2,v27] S24 fun v28 S29=>(p7 v21 S24 S29∧True)∧
 j7 S29 5 v2 v25 fun v30 S31=>(True)∧
 b7 (j2 S31 5 v2) fun v32=>Q (.tup [v32,v28]) S31)
theorem c8j{a0 a1 a2:D}{S:b9}(h:c4Q E w0 x (i9 E Q) a0 a1 a2 S):o9 Tryz.prog E w0 x a0k [a0,a1,a2] S Q:=
 l7 d2I d2V (fn:=Tryz.f118) (c:=Tryz.f118.body.getD .skip) m7 Tryz.func118 (by kernel_rfl) (by kernel_rfl) h
def d7M:List (Nat×List Nat):=[]
def d8b:List (Nat×List Nat):=[]
def d3N(E:j6)(w0:World)(x:Bool)(Q:D→b9→Prop)(a0:D)(S:b9):Prop:=
 m8 S [.nilSlc, .nilSlc,(.bool false)] fun v0 S1=>
 b7 (B8 (s5 [.nilSlc, .nilSlc,(.bool false)] [(0,1,a0),(2,1,(.bool true))])) fun v2=>
 j7 S1 3 v0 v2 fun v3 S4=>
 b7 (j2 S4 3 v0) fun v5=>Q v5 S4
theorem d4Q{a0:D}{S:b9}(h:d3N E w0 x (i9 E Q) a0 S):o9 Tryz.prog E w0 x r8 [a0] S Q:=
 l7 d7M d8b (fn:=Tryz.f100) (c:=Tryz.f100.body.getD .skip) m7 Tryz.func100 (by kernel_rfl) (by kernel_rfl) h
def b7Z:List (Nat×List Nat):=[]
def b7Q:List (Nat×List Nat):=[]
def a7X(E:j6)(w0:World)(x:Bool)(Q:D→b9→Prop)(a0 a1:D)(S:b9):Prop:=
 b7 (q6 a0) fun cs=>m8 S cs fun v0 S1=>
 m8 S1 [.nilSlc, .nilSlc,(.bool false)] fun v2 S3=>
 b7 (i5 1 v0) fun v4=>
 j7 S3 1 v4 a1 fun v5 S6=>
 b7 (j2 S6 3 v0) fun v7=>
 j7 S6 3 v2 v7 fun v8 S9=>
 b7 (j2 S9 3 v2) fun v10=>Q v10 S9
theorem b4M{a0 a1:D}{S:b9}(h:a7X E w0 x (i9 E Q) a0 a1 S):o9 Tryz.prog E w0 x m6 [a0,a1] S Q:=
 l7 b7Z b7Q (fn:=Tryz.f101) (c:=Tryz.f101.body.getD .skip) m7 Tryz.func101 (by kernel_rfl) (by kernel_rfl) h
def b7F:List (Nat×List Nat):=[]
def b8d:List (Nat×List Nat):=[]
def a8n(E:j6)(w0:World)(x:Bool)(Q:D→b9→Prop)(a0 a1:D)(S:b9):Prop:=
 b7 (q6 a0) fun cs=>m8 S cs fun v0 S1=>
 m8 S1 [.nilSlc, .nilSlc,(.bool false)] fun v2 S3=>
 b7 (i5 2 v0) fun v4=>
 j7 S3 1 v4 a1 fun v5 S6=>
 b7 (j2 S6 3 v0) fun v7=>
 j7 S6 3 v2 v7 fun v8 S9=>
 b7 (j2 S9 3 v2) fun v10=>Q v10 S9
theorem b4X{a0 a1:D}{S:b9}(h:a8n E w0 x (i9 E Q) a0 a1 S):o9 Tryz.prog E w0 x r0 [a0,a1] S Q:=
 l7 b7F b8d (fn:=Tryz.f102) (c:=Tryz.f102.body.getD .skip) m7 Tryz.func102 (by kernel_rfl) (by kernel_rfl) h
def a1E:List (Nat×List Nat):=[(20,[4,5,7,8,42,43,44])]
def a1H:List (Nat×List Nat):=[(25,[2,3,4,5,25,26])]
noncomputable def b3p:Code:=(j4 [1,1,0,1,0,1,0,1,0,1,0,1,0,1,0,0] (Tryz.f104.body.getD .skip))
def b3R(E:j6)(w0:World)(x:Bool)(Q:D→b9→Prop):o6→List D→b9→Prop:=
 (o8 1 (w6 Tryz.prog E w0 x a1E a1H (j4 [1,1,0,1,0,1,0,1,0,1,0,1,1] (Tryz.f104.body.getD .skip)) (w6 Tryz.prog E w0 x a1E a1H (j4 [1,1,0,1,0,1,0,1,1] (Tryz.f104.body.getD .skip)) (o8 0 (w6 Tryz.prog E w0 x a1E a1H (j4 [1,1,1] (Tryz.f104.body.getD .skip)) (z7 Tryz.prog Tryz.f104 Q))))))
def b2Z(E:j6)(w0:World)(x:Bool)(N0:D→D→D→D→D→D→D→b9→Prop)(Q:D→b9→Prop)(x4 x5 x7 x8 x42 x43 x44:D)(S:b9):Prop:=
 b7 (i6 .lss x44 x43) fun v29=>
 j1 v29
 (b7 (p6 2 x42 x44) fun v30=>
 b7 (j2 S 2 v30) fun v31=>
 m8 S [(.str []),(.int .i64 0)] fun v32 S33=>
 j7 S33 2 v32 v31 fun v34 S35=>
 b7 (i5 1 v32) fun v36=>
 b7 (b8 S35 v36) fun v37=>
 q7 S35 1 (m9 1 (List.replicate 1 [(.int .i64 0)]) [(0,v37)]) 1 fun v38 S39=>
 r6 S39 1 8 x8 v38 fun v40 S41=>
 b7 (i6 .add x44 (.int .i64 1)) fun v42=>
 N0 x4 x5 x7 v40 x42 x43 v42 S41)
 (o9 Tryz.prog E w0 x r8 [x8] S fun v43 S44=>
 q7 S44 1 (m9 1 (List.replicate 1 [(.int .i64 0)]) [(0,x5)]) 1 fun v45 S46=>
 o9 Tryz.prog E w0 x m6 [v43,v45] S46 fun v47 S48=>
 o9 Tryz.prog E w0 x r0 [v47,x7] S48 fun v49 S50=>
 j7 S50 3 x4 v49 fun v51 S52=>
 b7 (j2 S52 3 x4) fun v53=>Q v53 S52)
theorem c6p{N0:D→D→D→D→D→D→D→b9→Prop}{Q:D→b9→Prop}{x4 x5 x7 x8 x42 x43 x44:D}{S:b9}(h:b2Z E w0 x N0 Q x4 x5 x7 x8 x42 x43 x44 S):
  j0 Tryz.prog E w0 x b3p (j9 200 [4,5,7,8,42,43,44] [x4,x5,x7,x8,x42,x43,x44]) S (q8 (fun T S=>N0 (T.getD 4 d9) (T.getD 5 d9) (T.getD 7 d9) (T.getD 8 d9) (T.getD 42 d9) (T.getD 43 d9) (T.getD 44 d9) S) (b3R E w0 x Q)):=j3 a1E a1H m7 (by kernel_rfl) h
theorem c5m(I:Nat→D→D→D→D→D→D→D→b9→Prop)
  (step:∀n x4 x5 x7 x8 x42 x43 x44 S,I n x4 x5 x7 x8 x42 x43 x44 S→b2Z E w0 x (fun x4 x5 x7 x8 x42 x43 x44 S=>∃m,m<n∧I m x4 x5 x7 x8 x42 x43 x44 S) Q x4 x5 x7 x8 x42 x43 x44 S)
  {n:Nat} {x4 x5 x7 x8 x42 x43 x44:D} {S:b9} (h:I n x4 x5 x7 x8 x42 x43 x44 S):j0 Tryz.prog E w0 x (.loop b3p) (j9 200 [4,5,7,8,42,43,44] [x4,x5,x7,x8,x42,x43,x44]) S (b3R E w0 x Q):=
 o3 (k:=200) (n:=n) (I:=fun n T S=>I n (T.getD 4 d9) (T.getD 5 d9) (T.getD 7 d9) (T.getD 8 d9) (T.getD 42 d9) (T.getD 43 d9) (T.getD 44 d9) S) (fun n T S hl hI=>o5 [4,5,7,8,42,43,44] hl (j0.mono (c6p (step n _ _ _ _ _ _ _ S hI)) fun ex T' S' _ hq=>by cases ex<;>exact hq)) (l8 ..) (Eq.mp (by kernel_rfl) h)
noncomputable def c9M:Code:=(j4 [1,1,0,1,0,1] (Tryz.f104.body.getD .skip))
def c8V(E:j6)(w0:World)(x:Bool)(Q:D→b9→Prop):o6→List D→b9→Prop:=
 (o8 0 (w6 Tryz.prog E w0 x a1E a1H (j4 [1,1,1] (Tryz.f104.body.getD .skip)) (z7 Tryz.prog Tryz.f104 Q)))
def b8t(E:j6)(w0:World)(x:Bool)(Q:D→b9→Prop)(x2 x3 x4 x5 x25 x26:D)(S:b9):Prop:=
 j1 x26
 (b7 (j2 S 3 x3) fun v10=>
 b7 (i5 1 x2) fun v11=>
 b7 (b8 S v11) fun v12=>
 q7 S 1 (m9 1 (List.replicate 1 [(.int .u8 0)]) [(0,(.int .u8 6))]) 1 fun v13 S14=>
 o9 Tryz.prog E w0 x a0k [v10,v12,v13] S14 fun v15 S16=>
 b7 (o4 v15 0) fun v17=>
 b7 (o4 v15 1) fun v18=>
 m8 S16 [(.int .u8 0),(.str []), .nilSlc,(.int .i64 0),(.int .i64 0)] fun v19 S20=>
 j7 S20 5 v19 v17 fun v21 S22=>
 b7 (i5 0 x2) fun v23=>
 b7 (b8 S22 v23) fun v24=>
 b7 (i6 .eql v24 (.int .u8 36)) fun v25=>
 j1 v25
 (b7 (i5 2 v19) fun v26=>
 b7 (b8 S22 v26) fun v27=>
 b7 (l9 v27) fun v28=>
 j0 Tryz.prog E w0 x (.loop b3p) (j9 200 [4,5,7,8,42,43,44] [x4,x5,v18, .nilSlc,v27,v28,(.int .i64 0)]) S22 (b3R E w0 x Q))
 (b7 (unD .not v18) fun v54=>
 b7 (i4 (i0 v54 false) (i5 2 x2)) fun v55=>
 b7 (i4 (i0 v54 false) (b8 S22 v55)) fun v56=>
 b7 (i4 (i0 v54 false) (i5 2 v19)) fun v57=>
 b7 (i4 (i0 v54 false) (b8 S22 v57)) fun v58=>
 b7 (i4 (i0 v54 false) (l9 v58)) fun v59=>
 b7 (i4 (i0 v54 false) (i6 .geq v56 v59)) fun v60=>
 b7 (o7 v54 (.bool true) v60) fun v61=>
 j1 v61
 (b7 (B8 (s5 [.nilSlc, .nilSlc,(.bool false)] [])) fun v62=>
 j7 S22 3 x4 v62 fun v63 S64=>
 b7 (j2 S64 3 x4) fun v65=>Q v65 S64)
 (b7 (i5 2 v19) fun v66=>
 b7 (b8 S22 v66) fun v67=>
 b7 (i5 2 x2) fun v68=>
 b7 (b8 S22 v68) fun v69=>
 b7 (p6 2 v67 v69) fun v70=>
 b7 (i5 1 v70) fun v71=>
 b7 (b8 S22 v71) fun v72=>
 b7 (i5 0 x2) fun v73=>
 b7 (b8 S22 v73) fun v74=>
 b7 (i6 .eql v74 (.int .u8 38)) fun v75=>
 j1 v75
 (q7 S22 1 (m9 1 (List.replicate 2 [(.int .i64 0)]) [(0,x5),(1,v72)]) 2 fun v76 S77=>
 o9 Tryz.prog E w0 x r8 [v76] S77 fun v78 S79=>
 j7 S79 3 x4 v78 fun v80 S81=>
 b7 (j2 S81 3 x4) fun v82=>Q v82 S81)
 (q7 S22 1 (m9 1 (List.replicate 1 [(.int .i64 0)]) [(0,x5)]) 1 fun v83 S84=>
 o9 Tryz.prog E w0 x r8 [v83] S84 fun v85 S86=>
 q7 S86 1 (m9 1 (List.replicate 1 [(.int .i64 0)]) [(0,v72)]) 1 fun v87 S88=>
 o9 Tryz.prog E w0 x m6 [v85,v87] S88 fun v89 S90=>
 j7 S90 3 x4 v89 fun v91 S92=>
 b7 (j2 S92 3 x4) fun v93=>Q v93 S92))))
 (b7 (i6 .eql x25 (.int .u8 39)) fun v94=>
 j1 v94
 (b7 (j2 S 3 x3) fun v95=>
 b7 (i5 1 x2) fun v96=>
 b7 (b8 S v96) fun v97=>
 q7 S 1 (m9 1 (List.replicate 1 [(.int .u8 0)]) [(0,(.int .u8 7))]) 1 fun v98 S99=>
 o9 Tryz.prog E w0 x a0k [v95,v97,v98] S99 fun v100 S101=>
 b7 (o4 v100 0) fun v102=>
 b7 (o4 v100 1) fun v103=>
 m8 S101 [(.int .u8 0),(.str []), .nilSlc,(.int .i64 0),(.int .i64 0)] fun v104 S105=>
 j7 S105 5 v104 v102 fun v106 S107=>
 b7 (i5 3 v104) fun v108=>
 b7 (b8 S107 v108) fun v109=>
 q7 S107 1 (m9 1 (List.replicate 1 [(.int .i64 0)]) [(0,v109)]) 1 fun v110 S111=>
 o9 Tryz.prog E w0 x r8 [v110] S111 fun v112 S113=>
 q7 S113 1 (m9 1 (List.replicate 1 [(.int .i64 0)]) [(0,x5)]) 1 fun v114 S115=>
 o9 Tryz.prog E w0 x m6 [v112,v114] S115 fun v116 S117=>
 o9 Tryz.prog E w0 x r0 [v116,v103] S117 fun v118 S119=>
 j7 S119 3 x4 v118 fun v120 S121=>
 b7 (j2 S121 3 x4) fun v122=>Q v122 S121)
 (b7 (i6 .eql x25 (.int .u8 40)) fun v123=>
 j1 v123
 (b7 (j2 S 3 x3) fun v124=>
 b7 (i5 1 x2) fun v125=>
 b7 (b8 S v125) fun v126=>
 q7 S 1 (m9 1 (List.replicate 1 [(.int .u8 0)]) [(0,(.int .u8 8))]) 1 fun v127 S128=>
 o9 Tryz.prog E w0 x a0k [v124,v126,v127] S128 fun v129 S130=>
 b7 (o4 v129 0) fun v131=>
 b7 (o4 v129 1) fun v132=>
 m8 S130 [(.int .u8 0),(.str []), .nilSlc,(.int .i64 0),(.int .i64 0)] fun v133 S134=>
 j7 S134 5 v133 v131 fun v135 S136=>
 o9 Tryz.prog E w0 x r8 [.nilSlc] S136 fun v137 S138=>
 q7 S138 1 (m9 1 (List.replicate 1 [(.int .i64 0)]) [(0,x5)]) 1 fun v139 S140=>
 o9 Tryz.prog E w0 x m6 [v137,v139] S140 fun v141 S142=>
 o9 Tryz.prog E w0 x r0 [v141,v132] S142 fun v143 S144=>
 j7 S144 3 x4 v143 fun v145 S146=>
 b7 (j2 S146 3 x4) fun v147=>Q v147 S146)
 (b7 (i6 .eql x25 (.int .u8 44)) fun v148=>
 j1 v148
 (b7 (j2 S 3 x3) fun v149=>
 b7 (i5 1 x2) fun v150=>
 b7 (b8 S v150) fun v151=>
 q7 S 1 (m9 1 (List.replicate 1 [(.int .u8 0)]) [(0,(.int .u8 8))]) 1 fun v152 S153=>
 o9 Tryz.prog E w0 x a0k [v149,v151,v152] S153 fun v154 S155=>
 b7 (o4 v154 0) fun v156=>
 b7 (o4 v154 1) fun v157=>
 m8 S155 [(.int .u8 0),(.str []), .nilSlc,(.int .i64 0),(.int .i64 0)] fun v158 S159=>
 j7 S159 5 v158 v156 fun v160 S161=>
 b7 (i5 3 v158) fun v162=>
 b7 (b8 S161 v162) fun v163=>
 q7 S161 1 (m9 1 (List.replicate 2 [(.int .i64 0)]) [(0,x5),(1,v163)]) 2 fun v164 S165=>
 o9 Tryz.prog E w0 x r8 [v164] S165 fun v166 S167=>
 o9 Tryz.prog E w0 x r0 [v166,v157] S167 fun v168 S169=>
 j7 S169 3 x4 v168 fun v170 S171=>
 b7 (j2 S171 3 x4) fun v172=>Q v172 S171)
 (b7 (i6 .eql x25 (.int .u8 45)) fun v173=>
 j1 v173
 (b7 (j2 S 3 x3) fun v174=>
 b7 (i5 1 x2) fun v175=>
 b7 (b8 S v175) fun v176=>
 q7 S 1 (m9 1 (List.replicate 1 [(.int .u8 0)]) [(0,(.int .u8 8))]) 1 fun v177 S178=>
 o9 Tryz.prog E w0 x a0k [v174,v176,v177] S178 fun v179 S180=>
 b7 (o4 v179 0) fun v181=>
 b7 (o4 v179 1) fun v182=>
 m8 S180 [(.int .u8 0),(.str []), .nilSlc,(.int .i64 0),(.int .i64 0)] fun v183 S184=>
 j7 S184 5 v183 v181 fun v185 S186=>
 x=false∧(q7 S186 1 (m9 1 (List.replicate 1 [(.int .i64 0)]) [(0,x5)]) 1 fun v187 S188=>(True)∧
 DF E (J6 Tryz.prog E w0) r8 [v187] S188 fun v189 S190=>(True)∧
 b7 (i5 3 v183) fun v191=>
 b7 (b8 S190 v191) fun v192=>((b8 S188 (j5 (i5 3 v183))≠none∧p7 (j5 (i5 3 v183)) S188 S190)∧(b8 S186 (j5 (i5 3 v183))≠none∧p7 (j5 (i5 3 v183)) S186 S190)∧True)∧
 q7 S190 1 (m9 1 (List.replicate 1 [(.int .i64 0)]) [(0,v192)]) 1 fun v193 S194=>(True)∧
 DF E (J6 Tryz.prog E w0) m6 [v189,v193] S194 fun v195 S196=>(True)∧
 DF E (J6 Tryz.prog E w0) r0 [v195,v182] S196 fun v197 S198=>(True)∧
 j7 S198 3 x4 v197 fun v199 S200=>(True)∧
 b7 (j2 S200 3 x4) fun v201=>Q v201 S200)∧
 (q7 S186 1 (m9 1 (List.replicate 1 [(.int .i64 0)]) [(0,x5)]) 1 fun v202 S203=>(True)∧
 b7 (i5 3 v183) fun v204=>
 b7 (b8 S203 v204) fun v205=>((b8 S186 (j5 (i5 3 v183))≠none∧p7 (j5 (i5 3 v183)) S186 S203)∧True)∧
 q7 S203 1 (m9 1 (List.replicate 1 [(.int .i64 0)]) [(0,v205)]) 1 fun v206 S207=>(True)∧
 DF E (J6 Tryz.prog E w0) r8 [v202] S207 fun v208 S209=>(True)∧
 DF E (J6 Tryz.prog E w0) m6 [v208,v206] S209 fun v210 S211=>(True)∧
 DF E (J6 Tryz.prog E w0) r0 [v210,v182] S211 fun v212 S213=>(True)∧
 j7 S213 3 x4 v212 fun v214 S215=>(True)∧
 b7 (j2 S215 3 x4) fun v216=>Q v216 S215)∧
 (b7 (i5 3 v183) fun v217=>
 b7 (b8 S186 v217) fun v218=>(True)∧
 q7 S186 1 (m9 1 (List.replicate 1 [(.int .i64 0)]) [(0,v218)]) 1 fun v219 S220=>(True)∧
 q7 S220 1 (m9 1 (List.replicate 1 [(.int .i64 0)]) [(0,x5)]) 1 fun v221 S222=>(True)∧
 DF E (J6 Tryz.prog E w0) r8 [v221] S222 fun v223 S224=>(True)∧
 DF E (J6 Tryz.prog E w0) m6 [v223,v219] S224 fun v225 S226=>(True)∧
 DF E (J6 Tryz.prog E w0) r0 [v225,v182] S226 fun v227 S228=>(True)∧
 j7 S228 3 x4 v227 fun v229 S230=>(True)∧
 b7 (j2 S230 3 x4) fun v231=>Q v231 S230)∧
 True)
 (b7 (j2 S 3 x3) fun v232=>
 b7 (i5 1 x2) fun v233=>
 b7 (b8 S v233) fun v234=>
 q7 S 1 (m9 1 (List.replicate 2 [(.int .u8 0)]) [(0,(.int .u8 7)),(1,(.int .u8 8))]) 2 fun v235 S236=>
 o9 Tryz.prog E w0 x a0k [v232,v234,v235] S236 fun v237 S238=>
 b7 (o4 v237 0) fun v239=>
 b7 (o4 v237 1) fun v240=>
 m8 S238 [(.int .u8 0),(.str []), .nilSlc,(.int .i64 0),(.int .i64 0)] fun v241 S242=>
 j7 S242 5 v241 v239 fun v243 S244=>
 b7 (i5 0 x2) fun v245=>
 b7 (b8 S244 v245) fun v246=>
 b7 (i6 .eql v246 (.int .u8 41)) fun v247=>
 j1 v247
 (x=false∧(q7 S244 1 (m9 1 (List.replicate 2 [(.int .i64 0)]) [(0,x5),(1,(.int .i64 3))]) 2 fun v248 S249=>(True)∧
 DF E (J6 Tryz.prog E w0) r8 [v248] S249 fun v250 S251=>(True)∧
 b7 (i5 3 v241) fun v252=>
 b7 (b8 S251 v252) fun v253=>((b8 S249 (j5 (i5 3 v241))≠none∧p7 (j5 (i5 3 v241)) S249 S251)∧(b8 S244 (j5 (i5 3 v241))≠none∧p7 (j5 (i5 3 v241)) S244 S251)∧True)∧
 q7 S251 1 (m9 1 (List.replicate 1 [(.int .i64 0)]) [(0,v253)]) 1 fun v254 S255=>(True)∧
 DF E (J6 Tryz.prog E w0) m6 [v250,v254] S255 fun v256 S257=>(True)∧
 DF E (J6 Tryz.prog E w0) r0 [v256,v240] S257 fun v258 S259=>(True)∧
 j7 S259 3 x4 v258 fun v260 S261=>(True)∧
 b7 (j2 S261 3 x4) fun v262=>Q v262 S261)∧
 (q7 S244 1 (m9 1 (List.replicate 2 [(.int .i64 0)]) [(0,x5),(1,(.int .i64 3))]) 2 fun v263 S264=>(True)∧
 b7 (i5 3 v241) fun v265=>
 b7 (b8 S264 v265) fun v266=>((b8 S244 (j5 (i5 3 v241))≠none∧p7 (j5 (i5 3 v241)) S244 S264)∧True)∧
 q7 S264 1 (m9 1 (List.replicate 1 [(.int .i64 0)]) [(0,v266)]) 1 fun v267 S268=>(True)∧
 DF E (J6 Tryz.prog E w0) r8 [v263] S268 fun v269 S270=>(True)∧
 DF E (J6 Tryz.prog E w0) m6 [v269,v267] S270 fun v271 S272=>(True)∧
 DF E (J6 Tryz.prog E w0) r0 [v271,v240] S272 fun v273 S274=>(True)∧
 j7 S274 3 x4 v273 fun v275 S276=>(True)∧
 b7 (j2 S276 3 x4) fun v277=>Q v277 S276)∧
 (b7 (i5 3 v241) fun v278=>
 b7 (b8 S244 v278) fun v279=>(True)∧
 q7 S244 1 (m9 1 (List.replicate 1 [(.int .i64 0)]) [(0,v279)]) 1 fun v280 S281=>(True)∧
 q7 S281 1 (m9 1 (List.replicate 2 [(.int .i64 0)]) [(0,x5),(1,(.int .i64 3))]) 2 fun v282 S283=>(True)∧
 DF E (J6 Tryz.prog E w0) r8 [v282] S283 fun v284 S285=>(True)∧
 DF E (J6 Tryz.prog E w0) m6 [v284,v280] S285 fun v286 S287=>(True)∧
 DF E (J6 Tryz.prog E w0) r0 [v286,v240] S287 fun v288 S289=>(True)∧
 j7 S289 3 x4 v288 fun v290 S291=>(True)∧
 b7 (j2 S291 3 x4) fun v292=>Q v292 S291)∧
 True)
 (b7 (i6 .eql v246 (.int .u8 42)) fun v293=>
 j1 v293
 (b7 (i5 3 v241) fun v294=>
 b7 (b8 S244 v294) fun v295=>
 q7 S244 1 (m9 1 (List.replicate 3 [(.int .i64 0)]) [(0,x5),(1,(.int .i64 3)),(2,v295)]) 3 fun v296 S297=>
 o9 Tryz.prog E w0 x r8 [v296] S297 fun v298 S299=>
 o9 Tryz.prog E w0 x r0 [v298,v240] S299 fun v300 S301=>
 j7 S301 3 x4 v300 fun v302 S303=>
 b7 (j2 S303 3 x4) fun v304=>Q v304 S303)
 (q7 S244 1 (m9 1 (List.replicate 1 [(.int .i64 0)]) [(0,x5)]) 1 fun v305 S306=>
 o9 Tryz.prog E w0 x r8 [v305] S306 fun v307 S308=>
 q7 S308 1 (m9 1 (List.replicate 1 [(.int .i64 0)]) [(0,(.int .i64 3))]) 1 fun v309 S310=>
 o9 Tryz.prog E w0 x m6 [v307,v309] S310 fun v311 S312=>
 o9 Tryz.prog E w0 x r0 [v311,v240] S312 fun v313 S314=>
 j7 S314 3 x4 v313 fun v315 S316=>
 b7 (j2 S316 3 x4) fun v317=>Q v317 S316)))))))
def a0Q(E:j6)(w0:World)(x:Bool)(Q:D→b9→Prop)(x2 x3 x4 x5 x25 x26:D)(S:b9):Prop:=j0 Tryz.prog E w0 x c9M (j9 200 [2,3,4,5,25,26] [x2,x3,x4,x5,x25,x26]) S (c8V E w0 x Q)
theorem c3b{x2 x3 x4 x5 x25 x26:D}{S:b9}(h:b8t E w0 x Q x2 x3 x4 x5 x25 x26 S):a0Q E w0 x Q x2 x3 x4 x5 x25 x26 S:=j3 a1E a1H m7 (by kernel_rfl) h
def c6V(E:j6)(w0:World)(x:Bool)(Q:D→b9→Prop)(a0 a1:D)(S:b9):Prop:=
 b7 (q6 a0) fun cs=>m8 S cs fun v0 S1=>
 b7 (q6 a1) fun cs=>m8 S1 cs fun v2 S3=>
 m8 S3 [.nilSlc, .nilSlc,(.bool false)] fun v4 S5=>
 b7 (i5 1 v0) fun v6=>
 b7 (b8 S5 v6) fun v7=>
 b7 (i5 0 v0) fun v8=>
 b7 (b8 S5 v8) fun v9=>
 b7 (i6 .eql v9 (.int .u8 36)) fun v318=>
 j1 v318
 (a0Q E w0 x Q v0 v2 v4 v7 v9 v318 S5)
 (b7 (i6 .eql v9 (.int .u8 37)) fun v319=>
 j1 v319
 (a0Q E w0 x Q v0 v2 v4 v7 v9 v319 S5)
 (b7 (i6 .eql v9 (.int .u8 38)) fun v320=>
 a0Q E w0 x Q v0 v2 v4 v7 v9 v320 S5))
theorem d0i{a0 a1:D}{S:b9}(h:c6V E w0 x (i9 E Q) a0 a1 S):o9 Tryz.prog E w0 x b9Q [a0,a1] S Q:=
 l7 a1E a1H (fn:=Tryz.f104) (c:=Tryz.f104.body.getD .skip) m7 Tryz.func104 (by kernel_rfl) (by kernel_rfl) h
def E0:List (Nat×List Nat):=[]
def D8:List (Nat×List Nat):=[(25,[1,2,3,7,8]),(37,[1,2,3,7,18]),(57,[1,2,3,7,29]),(77,[1,2,3,7,40]),(105,[1,2,3,7,49]),(173,[2,3,7,107]),(197,[2,3,117])]
noncomputable def c5y:Code:=(j4 [1,1,0,1,0,1,1,1,1,1,1,1,1,1,1,1,1,1,1,1,1,1,1,1,1,1,1,1,1,1,1,1,1,1,1,1,1,1] (Tryz.f105.body.getD .skip))
def c3H(E:j6)(w0:World)(x:Bool)(Q:D→b9→Prop):o6→List D→b9→Prop:=
 (o8 0 (w6 Tryz.prog E w0 x E0 D8 (j4 [1,1,1] (Tryz.f105.body.getD .skip)) (z7 Tryz.prog Tryz.f105 Q)))
def b4y(E:j6)(w0:World)(x:Bool)(Q:D→b9→Prop)(x2 x3 x117:D)(S:b9):Prop:=
 j1 x117
 (o9 Tryz.prog E w0 x r8 [.nilSlc] S fun v219 S220=>
 j7 S220 3 x2 v219 fun v221 S222=>
 b7 (j2 S222 3 x2) fun v223=>Q v223 S222)
 (q7 S 1 (m9 1 (List.replicate 2 [(.int .i64 0)]) [(0,x3),(1,x3)]) 2 fun v224 S225=>
 o9 Tryz.prog E w0 x r8 [v224] S225 fun v226 S227=>
 q7 S227 1 (m9 1 (List.replicate 1 [(.int .i64 0)]) [(0,x3)]) 1 fun v228 S229=>
 o9 Tryz.prog E w0 x m6 [v226,v228] S229 fun v230 S231=>
 j7 S231 3 x2 v230 fun v232 S233=>
 b7 (j2 S233 3 x2) fun v234=>Q v234 S233)
def V9(E:j6)(w0:World)(x:Bool)(Q:D→b9→Prop)(x2 x3 x117:D)(S:b9):Prop:=j0 Tryz.prog E w0 x c5y (j9 129 [2,3,117] [x2,x3,x117]) S (c3H E w0 x Q)
theorem b8V{x2 x3 x117:D}{S:b9}(h:b4y E w0 x Q x2 x3 x117 S):V9 E w0 x Q x2 x3 x117 S:=j3 E0 D8 m7 (by kernel_rfl) h
noncomputable def c5q:Code:=(j4 [1,1,0,1,0,1,1,1,1,1,1,1,1,1,1,1,1,1,1,1,1,1,1,1,1,1,1,1,1,1,1,1,1,1] (Tryz.f105.body.getD .skip))
def c3R(E:j6)(w0:World)(x:Bool)(Q:D→b9→Prop):o6→List D→b9→Prop:=
 (o8 0 (w6 Tryz.prog E w0 x E0 D8 (j4 [1,1,1] (Tryz.f105.body.getD .skip)) (z7 Tryz.prog Tryz.f105 Q)))
def b4n(E:j6)(w0:World)(x:Bool)(Q:D→b9→Prop)(x2 x3 x7 x107:D)(S:b9):Prop:=
 j1 x107
 (q7 S 1 (m9 1 (List.replicate 1 [(.int .i64 0)]) [(0,(.int .i64 4))]) 1 fun v204 S205=>
 o9 Tryz.prog E w0 x r8 [v204] S205 fun v206 S207=>
 j7 S207 3 x2 v206 fun v208 S209=>
 b7 (j2 S209 3 x2) fun v210=>Q v210 S209)
 (b7 (i6 .eql x7 (.int .u8 49)) fun v211=>
 j1 v211
 (q7 S 1 (m9 1 (List.replicate 1 [(.int .i64 0)]) [(0,x3)]) 1 fun v212 S213=>
 o9 Tryz.prog E w0 x r8 [v212] S213 fun v214 S215=>
 j7 S215 3 x2 v214 fun v216 S217=>
 b7 (j2 S217 3 x2) fun v218=>Q v218 S217)
 (b7 (i6 .eql x7 (.int .u8 46)) fun v235=>
 j1 v235
 (V9 E w0 x Q x2 x3 v235 S)
 (b7 (i6 .eql x7 (.int .u8 51)) fun v236=>
 j1 v236
 (V9 E w0 x Q x2 x3 v236 S)
 (b7 (i6 .eql x7 (.int .u8 52)) fun v237=>
 V9 E w0 x Q x2 x3 v237 S))))
def a0M(E:j6)(w0:World)(x:Bool)(Q:D→b9→Prop)(x2 x3 x7 x107:D)(S:b9):Prop:=j0 Tryz.prog E w0 x c5q (j9 129 [2,3,7,107] [x2,x3,x7,x107]) S (c3R E w0 x Q)
theorem b9a{x2 x3 x7 x107:D}{S:b9}(h:b4n E w0 x Q x2 x3 x7 x107 S):a0M E w0 x Q x2 x3 x7 x107 S:=j3 E0 D8 m7 (by kernel_rfl) h
noncomputable def c5M:Code:=(j4 [1,1,0,1,0,1,1,1,1,1,1,1,1,1,1,1,1,1] (Tryz.f105.body.getD .skip))
def c3p(E:j6)(w0:World)(x:Bool)(Q:D→b9→Prop):o6→List D→b9→Prop:=
 (o8 0 (w6 Tryz.prog E w0 x E0 D8 (j4 [1,1,1] (Tryz.f105.body.getD .skip)) (z7 Tryz.prog Tryz.f105 Q)))
def b4i(E:j6)(w0:World)(x:Bool)(Q:D→b9→Prop)(x1 x2 x3 x7 x49:D)(S:b9):Prop:=
 j1 x49
 (q7 S 1 (m9 1 (List.replicate 2 [(.int .i64 0)]) [(0,x3),(1,x3)]) 2 fun v81 S82=>
 o9 Tryz.prog E w0 x r8 [v81] S82 fun v83 S84=>
 q7 S84 1 (m9 1 (List.replicate 1 [(.int .i64 0)]) [(0,(.int .i64 4))]) 1 fun v85 S86=>
 o9 Tryz.prog E w0 x m6 [v83,v85] S86 fun v87 S88=>
 j7 S88 3 x2 v87 fun v89 S90=>
 b7 (j2 S90 3 x2) fun v91=>Q v91 S90)
 (b7 (i6 .eql x7 (.int .u8 29)) fun v92=>
 j1 v92
 (x=false∧(q7 S 1 (m9 1 (List.replicate 1 [(.int .i64 0)]) [(0,x3)]) 1 fun v93 S94=>(True)∧
 DF E (J6 Tryz.prog E w0) r8 [v93] S94 fun v95 S96=>(True)∧
 b7 (i5 2 x1) fun v97=>
 b7 (b8 S96 v97) fun v98=>((b8 S94 (j5 (i5 2 x1))≠none∧p7 (j5 (i5 2 x1)) S94 S96)∧(b8 S (j5 (i5 2 x1))≠none∧p7 (j5 (i5 2 x1)) S S96)∧True)∧
 q7 S96 1 (m9 1 (List.replicate 1 [(.int .i64 0)]) [(0,v98)]) 1 fun v99 S100=>(True)∧
 DF E (J6 Tryz.prog E w0) m6 [v95,v99] S100 fun v101 S102=>(True)∧
 j7 S102 3 x2 v101 fun v103 S104=>(True)∧
 b7 (j2 S104 3 x2) fun v105=>Q v105 S104)∧
 (q7 S 1 (m9 1 (List.replicate 1 [(.int .i64 0)]) [(0,x3)]) 1 fun v106 S107=>(True)∧
 b7 (i5 2 x1) fun v108=>
 b7 (b8 S107 v108) fun v109=>((b8 S (j5 (i5 2 x1))≠none∧p7 (j5 (i5 2 x1)) S S107)∧True)∧
 q7 S107 1 (m9 1 (List.replicate 1 [(.int .i64 0)]) [(0,v109)]) 1 fun v110 S111=>(True)∧
 DF E (J6 Tryz.prog E w0) r8 [v106] S111 fun v112 S113=>(True)∧
 DF E (J6 Tryz.prog E w0) m6 [v112,v110] S113 fun v114 S115=>(True)∧
 j7 S115 3 x2 v114 fun v116 S117=>(True)∧
 b7 (j2 S117 3 x2) fun v118=>Q v118 S117)∧
 (b7 (i5 2 x1) fun v119=>
 b7 (b8 S v119) fun v120=>(True)∧
 q7 S 1 (m9 1 (List.replicate 1 [(.int .i64 0)]) [(0,v120)]) 1 fun v121 S122=>(True)∧
 q7 S122 1 (m9 1 (List.replicate 1 [(.int .i64 0)]) [(0,x3)]) 1 fun v123 S124=>(True)∧
 DF E (J6 Tryz.prog E w0) r8 [v123] S124 fun v125 S126=>(True)∧
 DF E (J6 Tryz.prog E w0) m6 [v125,v121] S126 fun v127 S128=>(True)∧
 j7 S128 3 x2 v127 fun v129 S130=>(True)∧
 b7 (j2 S130 3 x2) fun v131=>Q v131 S130)∧
 True)
 (b7 (i6 .eql x7 (.int .u8 30)) fun v132=>
 j1 v132
 (q7 S 1 (m9 1 (List.replicate 1 [(.int .i64 0)]) [(0,(.int .i64 4))]) 1 fun v133 S134=>
 o9 Tryz.prog E w0 x r8 [v133] S134 fun v135 S136=>
 q7 S136 1 (m9 1 (List.replicate 1 [(.int .i64 0)]) [(0,(.int .i64 4))]) 1 fun v137 S138=>
 o9 Tryz.prog E w0 x m6 [v135,v137] S138 fun v139 S140=>
 j7 S140 3 x2 v139 fun v141 S142=>
 b7 (j2 S142 3 x2) fun v143=>Q v143 S142)
 (b7 (i6 .eql x7 (.int .u8 31)) fun v144=>
 j1 v144
 (q7 S 1 (m9 1 (List.replicate 2 [(.int .i64 0)]) [(0,(.int .i64 5)),(1,(.int .i64 5))]) 2 fun v145 S146=>
 o9 Tryz.prog E w0 x r8 [v145] S146 fun v147 S148=>
 q7 S148 1 (m9 1 (List.replicate 1 [(.int .i64 0)]) [(0,(.int .i64 5))]) 1 fun v149 S150=>
 o9 Tryz.prog E w0 x m6 [v147,v149] S150 fun v151 S152=>
 j7 S152 3 x2 v151 fun v153 S154=>
 b7 (j2 S154 3 x2) fun v155=>Q v155 S154)
 (b7 (i6 .eql x7 (.int .u8 32)) fun v156=>
 j1 v156
 (q7 S 1 (m9 1 (List.replicate 1 [(.int .i64 0)]) [(0,(.int .i64 5))]) 1 fun v157 S158=>
 o9 Tryz.prog E w0 x r8 [v157] S158 fun v159 S160=>
 q7 S160 1 (m9 1 (List.replicate 1 [(.int .i64 0)]) [(0,(.int .i64 3))]) 1 fun v161 S162=>
 o9 Tryz.prog E w0 x m6 [v159,v161] S162 fun v163 S164=>
 j7 S164 3 x2 v163 fun v165 S166=>
 b7 (j2 S166 3 x2) fun v167=>Q v167 S166)
 (b7 (i6 .eql x7 (.int .u8 33)) fun v168=>
 j1 v168
 (q7 S 1 (m9 1 (List.replicate 2 [(.int .i64 0)]) [(0,(.int .i64 5)),(1,(.int .i64 3))]) 2 fun v169 S170=>
 o9 Tryz.prog E w0 x r8 [v169] S170 fun v171 S172=>
 q7 S172 1 (m9 1 (List.replicate 1 [(.int .i64 0)]) [(0,(.int .i64 2))]) 1 fun v173 S174=>
 o9 Tryz.prog E w0 x m6 [v171,v173] S174 fun v175 S176=>
 j7 S176 3 x2 v175 fun v177 S178=>
 b7 (j2 S178 3 x2) fun v179=>Q v179 S178)
 (b7 (i6 .eql x7 (.int .u8 34)) fun v180=>
 j1 v180
 (q7 S 1 (m9 1 (List.replicate 3 [(.int .i64 0)]) [(0,(.int .i64 5)),(1,(.int .i64 3)),(2,(.int .i64 3))]) 3 fun v181 S182=>
 o9 Tryz.prog E w0 x r8 [v181] S182 fun v183 S184=>
 q7 S184 1 (m9 1 (List.replicate 1 [(.int .i64 0)]) [(0,(.int .i64 5))]) 1 fun v185 S186=>
 o9 Tryz.prog E w0 x m6 [v183,v185] S186 fun v187 S188=>
 j7 S188 3 x2 v187 fun v189 S190=>
 b7 (j2 S190 3 x2) fun v191=>Q v191 S190)
 (b7 (i6 .eql x7 (.int .u8 35)) fun v192=>
 j1 v192
 (q7 S 1 (m9 1 (List.replicate 1 [(.int .i64 0)]) [(0,(.int .i64 2))]) 1 fun v193 S194=>
 o9 Tryz.prog E w0 x r8 [v193] S194 fun v195 S196=>
 q7 S196 1 (m9 1 (List.replicate 1 [(.int .i64 0)]) [(0,(.int .i64 5))]) 1 fun v197 S198=>
 o9 Tryz.prog E w0 x m6 [v195,v197] S198 fun v199 S200=>
 j7 S200 3 x2 v199 fun v201 S202=>
 b7 (j2 S202 3 x2) fun v203=>Q v203 S202)
 (b7 (i6 .eql x7 (.int .u8 47)) fun v238=>
 j1 v238
 (a0M E w0 x Q x2 x3 x7 v238 S)
 (b7 (i6 .eql x7 (.int .u8 48)) fun v239=>
 a0M E w0 x Q x2 x3 x7 v239 S)))))))))
def I6(E:j6)(w0:World)(x:Bool)(Q:D→b9→Prop)(x1 x2 x3 x7 x49:D)(S:b9):Prop:=j0 Tryz.prog E w0 x c5M (j9 129 [1,2,3,7,49] [x1,x2,x3,x7,x49]) S (c3p E w0 x Q)
theorem b9j{x1 x2 x3 x7 x49:D}{S:b9}(h:b4i E w0 x Q x1 x2 x3 x7 x49 S):I6 E w0 x Q x1 x2 x3 x7 x49 S:=j3 E0 D8 m7 (by kernel_rfl) h
noncomputable def c7M:Code:=(j4 [1,1,0,1,0,1,1,1,1,1,1,1,1,1,1,1] (Tryz.f105.body.getD .skip))
def c6x(E:j6)(w0:World)(x:Bool)(Q:D→b9→Prop):o6→List D→b9→Prop:=
 (o8 0 (w6 Tryz.prog E w0 x E0 D8 (j4 [1,1,1] (Tryz.f105.body.getD .skip)) (z7 Tryz.prog Tryz.f105 Q)))
def b6q(E:j6)(w0:World)(x:Bool)(Q:D→b9→Prop)(x1 x2 x3 x7 x40:D)(S:b9):Prop:=
 j1 x40
 (q7 S 1 (m9 1 (List.replicate 1 [(.int .i64 0)]) [(0,x3)]) 1 fun v70 S71=>
 o9 Tryz.prog E w0 x r8 [v70] S71 fun v72 S73=>
 q7 S73 1 (m9 1 (List.replicate 1 [(.int .i64 0)]) [(0,x3)]) 1 fun v74 S75=>
 o9 Tryz.prog E w0 x m6 [v72,v74] S75 fun v76 S77=>
 j7 S77 3 x2 v76 fun v78 S79=>
 b7 (j2 S79 3 x2) fun v80=>Q v80 S79)
 (b7 (i6 .eql x7 (.int .u8 23)) fun v240=>
 j1 v240
 (I6 E w0 x Q x1 x2 x3 x7 v240 S)
 (b7 (i6 .eql x7 (.int .u8 24)) fun v241=>
 j1 v241
 (I6 E w0 x Q x1 x2 x3 x7 v241 S)
 (b7 (i6 .eql x7 (.int .u8 25)) fun v242=>
 j1 v242
 (I6 E w0 x Q x1 x2 x3 x7 v242 S)
 (b7 (i6 .eql x7 (.int .u8 26)) fun v243=>
 j1 v243
 (I6 E w0 x Q x1 x2 x3 x7 v243 S)
 (b7 (i6 .eql x7 (.int .u8 27)) fun v244=>
 j1 v244
 (I6 E w0 x Q x1 x2 x3 x7 v244 S)
 (b7 (i6 .eql x7 (.int .u8 28)) fun v245=>
 I6 E w0 x Q x1 x2 x3 x7 v245 S))))))
def a1O(E:j6)(w0:World)(x:Bool)(Q:D→b9→Prop)(x1 x2 x3 x7 x40:D)(S:b9):Prop:=j0 Tryz.prog E w0 x c7M (j9 129 [1,2,3,7,40] [x1,x2,x3,x7,x40]) S (c6x E w0 x Q)
theorem c0W{x1 x2 x3 x7 x40:D}{S:b9}(h:b6q E w0 x Q x1 x2 x3 x7 x40 S):a1O E w0 x Q x1 x2 x3 x7 x40 S:=j3 E0 D8 m7 (by kernel_rfl) h
noncomputable def c9a:Code:=(j4 [1,1,0,1,0,1,1,1,1,1,1,1] (Tryz.f105.body.getD .skip))
def c5D(E:j6)(w0:World)(x:Bool)(Q:D→b9→Prop):o6→List D→b9→Prop:=
 (o8 0 (w6 Tryz.prog E w0 x E0 D8 (j4 [1,1,1] (Tryz.f105.body.getD .skip)) (z7 Tryz.prog Tryz.f105 Q)))
def b6O(E:j6)(w0:World)(x:Bool)(Q:D→b9→Prop)(x1 x2 x3 x7 x29:D)(S:b9):Prop:=
 j1 x29
 (q7 S 1 (m9 1 (List.replicate 1 [(.int .i64 0)]) [(0,(.int .i64 0))]) 1 fun v51 S52=>
 o9 Tryz.prog E w0 x r8 [v51] S52 fun v53 S54=>
 j7 S54 3 x2 v53 fun v55 S56=>
 b7 (j2 S56 3 x2) fun v57=>Q v57 S56)
 (b7 (i6 .eql x7 (.int .u8 10)) fun v58=>
 j1 v58
 (q7 S 1 (m9 1 (List.replicate 1 [(.int .i64 0)]) [(0,(.int .i64 0))]) 1 fun v59 S60=>
 o9 Tryz.prog E w0 x r8 [v59] S60 fun v61 S62=>
 q7 S62 1 (m9 1 (List.replicate 2 [(.int .i64 0)]) [(0,(.int .i64 0)),(1,(.int .i64 0))]) 2 fun v63 S64=>
 o9 Tryz.prog E w0 x m6 [v61,v63] S64 fun v65 S66=>
 j7 S66 3 x2 v65 fun v67 S68=>
 b7 (j2 S68 3 x2) fun v69=>Q v69 S68)
 (b7 (i6 .eql x7 (.int .u8 21)) fun v246=>
 j1 v246
 (a1O E w0 x Q x1 x2 x3 x7 v246 S)
 (b7 (i6 .eql x7 (.int .u8 22)) fun v247=>
 a1O E w0 x Q x1 x2 x3 x7 v247 S)))
def a1G(E:j6)(w0:World)(x:Bool)(Q:D→b9→Prop)(x1 x2 x3 x7 x29:D)(S:b9):Prop:=j0 Tryz.prog E w0 x c9a (j9 129 [1,2,3,7,29] [x1,x2,x3,x7,x29]) S (c5D E w0 x Q)
theorem c1a{x1 x2 x3 x7 x29:D}{S:b9}(h:b6O E w0 x Q x1 x2 x3 x7 x29 S):a1G E w0 x Q x1 x2 x3 x7 x29 S:=j3 E0 D8 m7 (by kernel_rfl) h
noncomputable def c9z:Code:=(j4 [1,1,0,1,0,1,1,1] (Tryz.f105.body.getD .skip))
def c6i(E:j6)(w0:World)(x:Bool)(Q:D→b9→Prop):o6→List D→b9→Prop:=
 (o8 0 (w6 Tryz.prog E w0 x E0 D8 (j4 [1,1,1] (Tryz.f105.body.getD .skip)) (z7 Tryz.prog Tryz.f105 Q)))
def b7a(E:j6)(w0:World)(x:Bool)(Q:D→b9→Prop)(x1 x2 x3 x7 x18:D)(S:b9):Prop:=
 j1 x18
 (o9 Tryz.prog E w0 x r8 [.nilSlc] S fun v32 S33=>
 q7 S33 1 (m9 1 (List.replicate 1 [(.int .i64 0)]) [(0,(.int .i64 4))]) 1 fun v34 S35=>
 o9 Tryz.prog E w0 x m6 [v32,v34] S35 fun v36 S37=>
 j7 S37 3 x2 v36 fun v38 S39=>
 b7 (j2 S39 3 x2) fun v40=>Q v40 S39)
 (b7 (i6 .eql x7 (.int .u8 7)) fun v41=>
 j1 v41
 (o9 Tryz.prog E w0 x r8 [.nilSlc] S fun v42 S43=>
 q7 S43 1 (m9 1 (List.replicate 1 [(.int .i64 0)]) [(0,(.int .i64 0))]) 1 fun v44 S45=>
 o9 Tryz.prog E w0 x m6 [v42,v44] S45 fun v46 S47=>
 j7 S47 3 x2 v46 fun v48 S49=>
 b7 (j2 S49 3 x2) fun v50=>Q v50 S49)
 (b7 (i6 .eql x7 (.int .u8 8)) fun v248=>
 j1 v248
 (a1G E w0 x Q x1 x2 x3 x7 v248 S)
 (b7 (i6 .eql x7 (.int .u8 9)) fun v249=>
 a1G E w0 x Q x1 x2 x3 x7 v249 S)))
def a1y(E:j6)(w0:World)(x:Bool)(Q:D→b9→Prop)(x1 x2 x3 x7 x18:D)(S:b9):Prop:=j0 Tryz.prog E w0 x c9z (j9 129 [1,2,3,7,18] [x1,x2,x3,x7,x18]) S (c6i E w0 x Q)
theorem c1C{x1 x2 x3 x7 x18:D}{S:b9}(h:b7a E w0 x Q x1 x2 x3 x7 x18 S):a1y E w0 x Q x1 x2 x3 x7 x18 S:=j3 E0 D8 m7 (by kernel_rfl) h
noncomputable def c9n:Code:=(j4 [1,1,0,1,0,1] (Tryz.f105.body.getD .skip))
def c6w(E:j6)(w0:World)(x:Bool)(Q:D→b9→Prop):o6→List D→b9→Prop:=
 (o8 0 (w6 Tryz.prog E w0 x E0 D8 (j4 [1,1,1] (Tryz.f105.body.getD .skip)) (z7 Tryz.prog Tryz.f105 Q)))
def b6J(E:j6)(w0:World)(x:Bool)(Q:D→b9→Prop)(x1 x2 x3 x7 x8:D)(S:b9):Prop:=
 j1 x8
 (x=false∧(DF E (J6 Tryz.prog E w0) r8 [.nilSlc] S fun v8 S9=>(True)∧
 b7 (i5 0 x1) fun v10=>
 b7 (b8 S9 v10) fun v11=>((b8 S (j5 (i5 0 x1))≠none∧p7 (j5 (i5 0 x1)) S S9)∧True)∧
 b7 (E7 .i64 v11) fun v12=>
 q7 S9 1 (m9 1 (List.replicate 1 [(.int .i64 0)]) [(0,v12)]) 1 fun v13 S14=>(True)∧
 DF E (J6 Tryz.prog E w0) m6 [v8,v13] S14 fun v15 S16=>(True)∧
 j7 S16 3 x2 v15 fun v17 S18=>(True)∧
 b7 (j2 S18 3 x2) fun v19=>Q v19 S18)∧
 (b7 (i5 0 x1) fun v20=>
 b7 (b8 S v20) fun v21=>(True)∧
 b7 (E7 .i64 v21) fun v22=>
 q7 S 1 (m9 1 (List.replicate 1 [(.int .i64 0)]) [(0,v22)]) 1 fun v23 S24=>(True)∧
 DF E (J6 Tryz.prog E w0) r8 [.nilSlc] S24 fun v25 S26=>(True)∧
 DF E (J6 Tryz.prog E w0) m6 [v25,v23] S26 fun v27 S28=>(True)∧
 j7 S28 3 x2 v27 fun v29 S30=>(True)∧
 b7 (j2 S30 3 x2) fun v31=>Q v31 S30)∧
 True)
 (b7 (i6 .eql x7 (.int .u8 4)) fun v250=>
 j1 v250
 (a1y E w0 x Q x1 x2 x3 x7 v250 S)
 (b7 (i6 .eql x7 (.int .u8 5)) fun v251=>
 a1y E w0 x Q x1 x2 x3 x7 v251 S))
def Z6(E:j6)(w0:World)(x:Bool)(Q:D→b9→Prop)(x1 x2 x3 x7 x8:D)(S:b9):Prop:=j0 Tryz.prog E w0 x c9n (j9 129 [1,2,3,7,8] [x1,x2,x3,x7,x8]) S (c6w E w0 x Q)
theorem c0q{x1 x2 x3 x7 x8:D}{S:b9}(h:b6J E w0 x Q x1 x2 x3 x7 x8 S):Z6 E w0 x Q x1 x2 x3 x7 x8 S:=j3 E0 D8 m7 (by kernel_rfl) h
def c4s(E:j6)(w0:World)(x:Bool)(Q:D→b9→Prop)(a0:D)(S:b9):Prop:=
 b7 (q6 a0) fun cs=>m8 S cs fun v0 S1=>
 m8 S1 [.nilSlc, .nilSlc,(.bool false)] fun v2 S3=>
 b7 (i5 1 v0) fun v4=>
 b7 (b8 S3 v4) fun v5=>
 b7 (i5 0 v0) fun v6=>
 b7 (b8 S3 v6) fun v7=>
 b7 (i6 .eql v7 (.int .u8 1)) fun v252=>
 j1 v252
 (Z6 E w0 x Q v0 v2 v5 v7 v252 S3)
 (b7 (i6 .eql v7 (.int .u8 2)) fun v253=>
 j1 v253
 (Z6 E w0 x Q v0 v2 v5 v7 v253 S3)
 (b7 (i6 .eql v7 (.int .u8 3)) fun v254=>
 Z6 E w0 x Q v0 v2 v5 v7 v254 S3))
theorem c7p{a0:D}{S:b9}(h:c4s E w0 x (i9 E Q) a0 S):o9 Tryz.prog E w0 x b7f [a0] S Q:=
 l7 E0 D8 (fn:=Tryz.f105) (c:=Tryz.f105.body.getD .skip) m7 Tryz.func105 (by kernel_rfl) (by kernel_rfl) h
def c2n:List (Nat×List Nat):=[]
def c0u:List (Nat×List Nat):=[(26,[7])]
noncomputable def c8C:Code:=(j4 [1,1,1,1] (Tryz.f86.body.getD .skip))
def c5x(E:j6)(w0:World)(x:Bool)(Q:D→b9→Prop):o6→List D→b9→Prop:=
 (z7 Tryz.prog Tryz.f86 Q)
def b5P(E:j6)(w0:World)(x:Bool)(Q:D→b9→Prop)(x7:D)(S:b9):Prop:=
 b7 (i5 2 x7) fun v10=>
 b7 (b8 S v10) fun v11=>
 b7 (unD .not v11) fun v12=>
 j1 v12
 (Q (.tup [.nilSlc, .nilSlc,(.int .i64 2)]) S)
 (b7 (i5 0 x7) fun v13=>
 b7 (b8 S v13) fun v14=>(True)∧
 b7 (i5 1 x7) fun v15=>
 b7 (b8 S v15) fun v16=>(True)∧
 Q (.tup [v14,v16,(.int .i64 0)]) S)
def K5(E:j6)(w0:World)(x:Bool)(Q:D→b9→Prop)(x7:D)(S:b9):Prop:=j0 Tryz.prog E w0 x c8C (j9 71 [7] [x7]) S (c5x E w0 x Q)
theorem c0s{x7:D}{S:b9}(h:b5P E w0 x Q x7 S):K5 E w0 x Q x7 S:=j3 c2n c0u m7 (by kernel_rfl) h
def c4U(E:j6)(w0:World)(x:Bool)(Q:D→b9→Prop)(a0 a1:D)(S:b9):Prop:=
 b7 (q6 a0) fun cs=>m8 S cs fun v0 S1=>
 b7 (q6 a1) fun cs=>m8 S1 cs fun v2 S3=>
 b7 (j2 S3 4 v0) fun v4=>
 o9 Tryz.prog E w0 x b9n [v4] S3 fun v5 S6=>
 b7 (i6 .eql v5 (.int .i64 0)) fun v7=>
 j1 v7
 (Q (.tup [.nilSlc, .nilSlc,(.int .i64 120)]) S6)
 (m8 S6 [.nilSlc, .nilSlc,(.bool false)] fun v8 S9=>
 b7 (i5 0 v0) fun v17=>
 b7 (b8 S9 v17) fun v18=>
 b7 (i6 .eql v18 (.int .u8 6)) fun v19=>
 j1 v19
 (x=false∧(DF E (J6 Tryz.prog E w0) r8 [.nilSlc] S9 fun v20 S21=>(True)∧
 q7 S21 1 (m9 1 (List.replicate 1 [(.int .i64 0)]) [(0,(.int .i64 5))]) 1 fun v22 S23=>(True)∧
 DF E (J6 Tryz.prog E w0) m6 [v20,v22] S23 fun v24 S25=>(True)∧
 b7 (i5 1 v0) fun v26=>
 b7 (b8 S25 v26) fun v27=>((b8 S23 (j5 (i5 1 v0))≠none∧p7 (j5 (i5 1 v0)) S23 S25)∧(b8 S21 (j5 (i5 1 v0))≠none∧p7 (j5 (i5 1 v0)) S21 S25)∧(b8 S9 (j5 (i5 1 v0))≠none∧p7 (j5 (i5 1 v0)) S9 S25)∧True)∧
 b7 (i5 1 v2) fun v28=>
 b7 (b8 S25 v28) fun v29=>((b8 S23 (j5 (i5 1 v2))≠none∧p7 (j5 (i5 1 v2)) S23 S25)∧(b8 S21 (j5 (i5 1 v2))≠none∧p7 (j5 (i5 1 v2)) S21 S25)∧(b8 S9 (j5 (i5 1 v2))≠none∧p7 (j5 (i5 1 v2)) S9 S25)∧True)∧
 b7 (l9 v29) fun v30=>((l9 (j5 (b8 S23 (j5 (i5 1 v2))))≠none∧True)∧(l9 (j5 (b8 S21 (j5 (i5 1 v2))))≠none∧True)∧(l9 (j5 (b8 S9 (j5 (i5 1 v2))))≠none∧True)∧True)∧
 b7 (i6 .lss v27 v30) fun v31=>
 DF E (J6 Tryz.prog E w0) r0 [v24,v31] S25 fun v32 S33=>(True)∧
 j7 S33 3 v8 v32 fun v34 S35=>(True)∧
 K5 E w0 x Q v8 S35)∧
 (q7 S9 1 (m9 1 (List.replicate 1 [(.int .i64 0)]) [(0,(.int .i64 5))]) 1 fun v36 S37=>(True)∧
 DF E (J6 Tryz.prog E w0) r8 [.nilSlc] S37 fun v38 S39=>(True)∧
 DF E (J6 Tryz.prog E w0) m6 [v38,v36] S39 fun v40 S41=>(True)∧
 b7 (i5 1 v0) fun v42=>
 b7 (b8 S41 v42) fun v43=>((b8 S39 (j5 (i5 1 v0))≠none∧p7 (j5 (i5 1 v0)) S39 S41)∧(b8 S37 (j5 (i5 1 v0))≠none∧p7 (j5 (i5 1 v0)) S37 S41)∧(b8 S9 (j5 (i5 1 v0))≠none∧p7 (j5 (i5 1 v0)) S9 S41)∧True)∧
 b7 (i5 1 v2) fun v44=>
 b7 (b8 S41 v44) fun v45=>((b8 S39 (j5 (i5 1 v2))≠none∧p7 (j5 (i5 1 v2)) S39 S41)∧(b8 S37 (j5 (i5 1 v2))≠none∧p7 (j5 (i5 1 v2)) S37 S41)∧(b8 S9 (j5 (i5 1 v2))≠none∧p7 (j5 (i5 1 v2)) S9 S41)∧True)∧
 b7 (l9 v45) fun v46=>((l9 (j5 (b8 S39 (j5 (i5 1 v2))))≠none∧True)∧(l9 (j5 (b8 S37 (j5 (i5 1 v2))))≠none∧True)∧(l9 (j5 (b8 S9 (j5 (i5 1 v2))))≠none∧True)∧True)∧
 b7 (i6 .lss v43 v46) fun v47=>
 DF E (J6 Tryz.prog E w0) r0 [v40,v47] S41 fun v48 S49=>(True)∧
 j7 S49 3 v8 v48 fun v50 S51=>(True)∧
 K5 E w0 x Q v8 S51)∧
 True)
 (b7 (i5 0 v0) fun v52=>
 b7 (b8 S9 v52) fun v53=>
 b7 (i6 .eql v53 (.int .u8 50)) fun v54=>
 j1 v54
 (b7 (i5 1 v0) fun v55=>
 b7 (b8 S9 v55) fun v56=>
 b7 (i5 2 v2) fun v57=>
 b7 (b8 S9 v57) fun v58=>
 b7 (l9 v58) fun v59=>
 b7 (i6 .lss v56 v59) fun v60=>
 j1 v60
 (b7 (i5 2 v2) fun v61=>
 b7 (b8 S9 v61) fun v62=>
 b7 (i5 1 v0) fun v63=>
 b7 (b8 S9 v63) fun v64=>
 b7 (p6 6 v62 v64) fun v65=>
 b7 (j2 S9 6 v65) fun v66=>
 m8 S9 [(.str []), .nilSlc, .nilSlc,(.int .i64 0),(.int .i64 0), .nilSlc] fun v67 S68=>
 j7 S68 6 v67 v66 fun v69 S70=>
 b7 (i5 1 v67) fun v71=>
 b7 (b8 S70 v71) fun v72=>(True)∧
 DF E (J6 Tryz.prog E w0) V0 [v72] S70 fun v73 S74=>(True)∧
 DF E (J6 Tryz.prog E w0) r8 [v73] S74 fun v75 S76=>(True)∧
 b7 (i5 2 v67) fun v77=>
 b7 (b8 S76 v77) fun v78=>((b8 S74 (j5 (i5 2 v67))≠none∧p7 (j5 (i5 2 v67)) S74 S76)∧(b8 S70 (j5 (i5 2 v67))≠none∧p7 (j5 (i5 2 v67)) S70 S76)∧True)∧
 DF E (J6 Tryz.prog E w0) V0 [v78] S76 fun v79 S80=>(True)∧
 DF E (J6 Tryz.prog E w0) m6 [v75,v79] S80 fun v81 S82=>(True)∧
 j7 S82 3 v8 v81 fun v83 S84=>(True)∧
 K5 E w0 x Q v8 S84)
 (K5 E w0 x Q v8 S9))
 (b7 (i5 0 v0) fun v85=>
 b7 (b8 S9 v85) fun v86=>
 b7 (i6 .geq v86 (.int .u8 36)) fun v87=>
 b7 (i4 (i0 v87 true) (i5 0 v0)) fun v88=>
 b7 (i4 (i0 v87 true) (b8 S9 v88)) fun v89=>
 b7 (i4 (i0 v87 true) (i6 .leq v89 (.int .u8 45))) fun v90=>
 b7 (o7 v87 v90 (.bool false)) fun v91=>
 j1 v91
 (b7 (j2 S9 4 v0) fun v92=>
 b7 (j2 S9 3 v2) fun v93=>
 o9 Tryz.prog E w0 x b9Q [v92,v93] S9 fun v94 S95=>
 j7 S95 3 v8 v94 fun v96 S97=>
 K5 E w0 x Q v8 S97)
 (b7 (j2 S9 4 v0) fun v98=>
 o9 Tryz.prog E w0 x b7f [v98] S9 fun v99 S100=>
 j7 S100 3 v8 v99 fun v101 S102=>
 K5 E w0 x Q v8 S102))))
theorem c8m{a0 a1:D}{S:b9}(h:c4U E w0 x (i9 E Q) a0 a1 S):o9 Tryz.prog E w0 x b0m [a0,a1] S Q:=
 l7 c2n c0u (fn:=Tryz.f86) (c:=Tryz.f86.body.getD .skip) m7 Tryz.func86 (by kernel_rfl) (by kernel_rfl) h
def b7W:List (Nat×List Nat):=[]
def b8b:List (Nat×List Nat):=[]
def a3g(E:j6)(w0:World)(x:Bool)(Q:D→b9→Prop)(a0:D)(S:b9):Prop:=
 b7 (c2O .eql (d8X a0 .nilSlc)) fun v0=>
 j1 v0
 (Q .nilSlc S)
 (q7 S 1 (m9 1 (List.replicate 0 [(.int .i64 0)]) []) 0 fun v1 S2=>
 r6 S2 1 8 v1 a0 fun v3 S4=>
 Q v3 S4)
theorem a4N{a0:D}{S:b9}(h:a3g E w0 x (i9 E Q) a0 S):o9 Tryz.prog E w0 x V0 [a0] S Q:=
 l7 b7W b8b (fn:=Tryz.f103) (c:=Tryz.f103.body.getD .skip) m7 Tryz.func103 (by kernel_rfl) (by kernel_rfl) h
def b0X:List (Nat×List Nat):=[]
def b1i:List (Nat×List Nat):=[]
def a3D(E:j6)(w0:World)(x:Bool)(Q:D→b9→Prop)(a0 a1:D)(S:b9):Prop:=
 o9 Tryz.prog E w0 x a1P [a0,a1] S fun v0 S1=>
 b7 (i6 .geq v0 (.int .i64 0)) fun v2=>
 Q v2 S1
theorem a9J{a0 a1:D}{S:b9}(h:a3D E w0 x (i9 E Q) a0 a1 S):o9 Tryz.prog E w0 x Z8 [a0,a1] S Q:=
 l7 b0X b1i (fn:=Tryz.f129) (c:=Tryz.f129.body.getD .skip) m7 Tryz.func129 (by kernel_rfl) (by kernel_rfl) h
def a0U:List (Nat×List Nat):=[(4,[0,1,7,8])]
def a1i:List (Nat×List Nat):=[]
noncomputable def a0s:Code:=(j4 [1,0,1,0,0] (Tryz.f132.body.getD .skip))
def a0u(E:j6)(w0:World)(x:Bool)(Q:D→b9→Prop):o6→List D→b9→Prop:=
 (o8 0 (w6 Tryz.prog E w0 x a0U a1i (j4 [1,1] (Tryz.f132.body.getD .skip)) (z7 Tryz.prog Tryz.f132 Q)))
def a0m(E:j6)(w0:World)(x:Bool)(N0:D→D→D→D→b9→Prop)(Q:D→b9→Prop)(x0 x1 x7 x8:D)(S:b9):Prop:=
 b7 (i6 .lss x8 x7) fun v1=>
 j1 v1
 (b7 (p6 1 x0 x8) fun v2=>
 b7 (b8 S v2) fun v3=>
 b7 (i6 .eql x1 v3) fun v4=>
 j1 v4
 (Q x8 S)
 (b7 (i6 .add x8 (.int .i64 1)) fun v5=>
 N0 x0 x1 x7 v5 S))
 (Q (.int .i64 (-1)) S)
theorem b0d{N0:D→D→D→D→b9→Prop}{Q:D→b9→Prop}{x0 x1 x7 x8:D}{S:b9}(h:a0m E w0 x N0 Q x0 x1 x7 x8 S):
  j0 Tryz.prog E w0 x a0s (j9 19 [0,1,7,8] [x0,x1,x7,x8]) S (q8 (fun T S=>N0 (T.getD 0 d9) (T.getD 1 d9) (T.getD 7 d9) (T.getD 8 d9) S) (a0u E w0 x Q)):=j3 a0U a1i m7 (by kernel_rfl) h
theorem a9X(I:Nat→D→D→D→D→b9→Prop)
  (step:∀n x0 x1 x7 x8 S,I n x0 x1 x7 x8 S→a0m E w0 x (fun x0 x1 x7 x8 S=>∃m,m<n∧I m x0 x1 x7 x8 S) Q x0 x1 x7 x8 S)
  {n:Nat} {x0 x1 x7 x8:D} {S:b9} (h:I n x0 x1 x7 x8 S):j0 Tryz.prog E w0 x (.loop a0s) (j9 19 [0,1,7,8] [x0,x1,x7,x8]) S (a0u E w0 x Q):=
 o3 (k:=19) (n:=n) (I:=fun n T S=>I n (T.getD 0 d9) (T.getD 1 d9) (T.getD 7 d9) (T.getD 8 d9) S) (fun n T S hl hI=>o5 [0,1,7,8] hl (j0.mono (b0d (step n _ _ _ _ S hI)) fun ex T' S' _ hq=>by cases ex<;>exact hq)) (l8 ..) (Eq.mp (by kernel_rfl) h)
def a6l(E:j6)(w0:World)(x:Bool)(Q:D→b9→Prop)(a0 a1:D)(S:b9):Prop:=
 b7 (l9 a0) fun v0=>
 j0 Tryz.prog E w0 x (.loop a0s) (j9 19 [0,1,7,8] [a0,a1,v0,(.int .i64 0)]) S (a0u E w0 x Q)
theorem b2j{a0 a1:D}{S:b9}(h:a6l E w0 x (i9 E Q) a0 a1 S):o9 Tryz.prog E w0 x a1P [a0,a1] S Q:=
 l7 a0U a1i (fn:=Tryz.f132) (c:=Tryz.f132.body.getD .skip) m7 Tryz.func132 (by kernel_rfl) (by kernel_rfl) h
end Go.Proofs.YtchnpgddpaonhaaGreat.d
end
