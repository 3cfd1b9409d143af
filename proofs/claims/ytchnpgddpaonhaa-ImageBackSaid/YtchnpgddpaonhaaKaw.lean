/-
  ImageBackSaid: part Kaw of its proof.
-/
import Derived.Test.YtchnpgddpaonhaaKav
import Derived.Test.YtchnpgddpaonhaaKau
import Derived.Test.YtchnpgddpaonhaaKat
set_option linter.unusedVariables false
set_option linter.unusedSimpArgs false
set_option maxRecDepth 100000
section
open Go.Proofs Go Go.Am Go.Op
namespace Go.Proofs.Ytchnpgddpaonhaa.d
section
def zC:List D:=[.int .u8 0, .int .i64 0, .int .i64 0, .nilSlc]
def a1w(op a b:Int)(t:D):List D:=[.int .u8 op, .int .i64 a, .int .i64 b,t]
def c5Q(r:Dat×(Nat×Int))(t:D):D:= .tup [.agg (a1w r.1.1 r.1.2.1 r.1.2.2.1 t), .int .i64 (r.2.1:Int), .int .i64 r.2.2]
section
variable{E:m7}{w0:o0}
theorem c9K{Q:D→b7→Prop}{S:b7}{k4 k7 k10:Nat}{c4:List D}{op a b:Int}{t:D}{bs:List Int}{s:Nat×Int}(h4:w7 S k4 4 c4)(h7:w7 S k7 4 (a1w op a b t))(h10:w7 S k10 3 (rdC bs s))(l4:c4.length=4)(ht:r4 t=some [t])
  (hQ:∀S',(∀j,j≠k4→S' j=S j)→d9 E Q (if s.2=0 then .tup [.agg (a1w op a b t), .int .i64 (s.1:Int), .int .i64 0]else .tup [.agg zC, .int .i64 0, .int .i64 s.2]) S'):a0y E w0 (d9 E Q) (.ptr k4 0) (.ptr k7 0) (.ptr k10 0) S:=by
 refine b4T ?_
 unfold b0S
 have e410:k10≠k4:=h10.ne h4 (by decide)
 have ld2:(rdC bs s)[2]? =some (.int .i64 s.2):=rfl
 have ld1:(rdC bs s)[1]? =some (.int .i64 (s.1:Int)):=rfl
 simp only[ndP,H5,oD,Nat.zero_add,h10.ld,ld2,ld1,b0B,fiN,agS]
 rw[c6y,J6]
 refine⟨fun he=> ?_,fun he=> ?_⟩
 ·refine h4.st (clA _) ⟨rfl,by decide,by omega⟩ fun a4=>⟨by rw[fwP,b7.set_ne _ _ _ e410], ?_⟩
  have hs:o8 c4 0 [D.int .u8 0, .int .i64 0, .int .i64 0, .nilSlc]=zC:=by
   match c4,l4 with
   | [_,_,_,_],_=>rfl
  rw[hs,(w7.new).all (n:=4) (by decide) rfl,oD]
  have:=hQ (S.set k4 ⟨4,[zC],a4⟩) (fun j hj=>b7.set_ne _ _ _ hj)
  rw[if_neg he]at this
  exact this
 ·rw[h7.all (n:=4) (by decide) rfl,oD]
  refine h4.st (ds:=a1w op a b t) (clA _) ⟨rfl,by decide,by omega⟩ fun a4=>⟨by rw[fwP,b7.set_ne _ _ _ e410], ?_⟩
  have hs:o8 c4 0 (a1w op a b t)=a1w op a b t:=by
   match c4,l4 with
   | [_,_,_,_],_=>rfl
  rw[hs,(w7.new).all (n:=4) (by decide) rfl,oD]
  have:=hQ (S.set k4 ⟨4,[a1w op a b t],a4⟩) (fun j hj=>b7.set_ne _ _ _ hj)
  rw[if_pos (Classical.not_not.1 he)]at this
  exact this
structure a0T (S:b7) (k4 k7 k10:Nat) (c7:List D) (bs:List Int) (s:Nat×Int) (S':b7):Prop where
 le:S.le S'
 n4:S k4=none
 n7:S k7=none
 n10:S k10=none
 d47:k4≠k7
 h4:w7 S' k4 4 zC
 h7:w7 S' k7 4 c7
 h10:w7 S' k10 3 (rdC bs s)
section
variable{S S':b7}{k4 k7 k10:Nat}{c7:List D}{bs:List Int}{s:Nat×Int}
theorem a0T.d410(h:a0T S k4 k7 k10 c7 bs s S'):k4≠k10:=h.h4.ne h.h10 (by decide)
theorem a0T.d710(h:a0T S k4 k7 k10 c7 bs s S'):k7≠k10:=h.h7.ne h.h10 (by decide)
theorem a0T.set7(h:a0T S k4 k7 k10 c7 bs s S'){c:List D}{a:List AV}:a0T S k4 k7 k10 c bs s (S'.set k7 ⟨4,[c],a⟩):=
 ⟨b7.le_set h.le h.n7,h.n4,h.n7,h.n10,h.d47,h.h4.set_ne h.d47,w7.new,h.h10.set_ne (Ne.symm h.d710)⟩
theorem a0T.set10(h:a0T S k4 k7 k10 c7 bs s S'){s':Nat×Int}{a:List AV}:a0T S k4 k7 k10 c7 bs s' (S'.set k10 ⟨3,[rdC bs s'],a⟩):=
 ⟨b7.le_set h.le h.n10,h.n4,h.n7,h.n10,h.d47,h.h4.set_ne h.d410,h.h7.set_ne h.d710,w7.new⟩
theorem a0T.new(h:a0T S k4 k7 k10 c7 bs s S'){k:Nat}{o:M4}(hk:S' k=none):a0T S k4 k7 k10 c7 bs s (S'.set k o):=
 ⟨b7.le_set h.le (b7.none_of h.le hk),h.n4,h.n7,h.n10,h.d47,h.h4.set hk,h.h7.set hk,h.h10.set hk⟩
theorem a0T.of(h:a0T S k4 k7 k10 c7 bs s S'){S2:b7}(hl:S.le S2)(e:∀j∈[k4,k7,k10],S2 j=S' j):a0T S k4 k7 k10 c7 bs s S2:=
 ⟨hl,h.n4,h.n7,h.n10,h.d47,h.h4.of (e _ (by simp)),h.h7.of (e _ (by simp)),h.h10.of (e _ (by simp))⟩
end
theorem c1h.len{row:List D}{f:Fld}(h:c1h row f):row.length=2:=by obtain⟨fv,rfl,_⟩:=h;rfl
theorem d2Z{row:List D}{f:Fld}(h:c1h row f):o8 [D.int .i64 0, .nilFn] 0 row=row:=by obtain⟨fv,rfl,_⟩:=h;rfl
theorem a8t{S S':b7}{k4 k7 k10:Nat}{c7:List D}{bs:List Int}{s:Nat×Int}(h:a0T S k4 k7 k10 c7 bs s S')(hb:∀b∈bs,K4 b)(hl:bs.length<2^60)(hs:s.1≤bs.length){row:List D}{f:Fld}(hf:c1h row f)(h1:1≤f.size)(h8:f.size≤8):
  o5 Try.prog E w0 C3 [.ptr k10 0, .agg row] S' fun v S2=>v= .int .i64 (H8 bs f s).1∧a0T S k4 k7 k10 c7 bs (H8 bs f s).2 S2∧∀j,j≠k10→S2 j=S' j:=by
 obtain⟨a,e⟩:=h.h10
 refine(c6P hb hl hs hf h1 h8 e).use fun v S2 ⟨e1,a',e2⟩=>⟨e1, ?_, ?_⟩
 ·rw[e2];exact h.set10
 ·rw[e2];exact fun j hj=>b7.set_ne _ _ _ hj
theorem d3d(bs:List Int)(f:Fld)(s:Nat×Int):(H8 bs f s).1=0∨f.may (H8 bs f s).1=true:=by
 unfold H8
 split
 ·exact .inl rfl
 split
 ·exact .inl rfl
 ·split
  ·rename_i m hm
   unfold rdN at hm
   simp only[Option.ite_none_right_eq_some,Option.some.injEq]at hm
   obtain⟨h1,h2⟩:=hm
   right;rw[←h2];exact h1
  ·exact .inl rfl
theorem d5a{Q:D→b7→Prop}{S:b7}{k4 k7 k10 k13 k14:Nat}{op a:Int}{bs:List Int}{s:Nat×Int}{S':b7}(hb:∀b∈bs,K4 b)(hl:bs.length<2^30)(h:a0T S k4 k7 k10 (a1w op a 0 .nilSlc) bs s S')(hs:s.1≤bs.length)
  (h13:w7 S' k13 2 [.int .i64 4,a0B 0 4294967295]) (h14:w7 S' k14 2 [.int .i64 8,a7b (IntKind.u8.wrap a)]) (n13:S k13=none) (n14:S k14=none) (d7:k7≠k13∧k7≠k14)
  (hQ:∀t S',Grw S t ((a8M bs op a s).1.2.2.2.map a2I) 2 S'→d9 E Q (if(a8M bs op a s).2.2=0 then .tup [.agg (a1w op a (a8M bs op a s).1.2.2.1 t), .int .i64 ((a8M bs op a s).2.1:Int), .int .i64 0]else .tup [.agg zC, .int .i64 0, .int .i64 (a8M bs op a s).2.2]) S'):
  u7 E w0 (d9 E Q) (.ptr k4 0) (.ptr k7 0) (.ptr k10 0) (.ptr k13 0) (.ptr k14 0) S':=by
 refine b4F ?_
 unfold b0R
 refine G3.use ?_
 rw[a4T (b3X _ _),oD]
 have hl60:bs.length<2^60:=by omega
 refine(a8t h hb hl60 hs (row:=[.int .i64 2,a0B 0 65535]) (f:=fIx) ⟨_,rfl,b9w.bet _ _⟩ (by decide) (by decide)).use ?_
 rintro v S2 ⟨rfl,h2,ke⟩
 have hs2:=c5n (f:=fIx) hs
 have hn0:0≤(H8 bs fIx s).1∧(H8 bs fIx s).1≤65535:=by
  rcases d3d bs fIx s with h|h
  ·omega
  ·exact of_decide_eq_true h
 have e13:k13≠k10:=h13.ne h.h10 (by decide)
 have e14:k14≠k10:=h14.ne h.h10 (by decide)
 have h13:=h13.of (ke _ e13)
 have h14:=h14.of (ke _ e14)
 obtain⟨N,hN⟩:∃N:Nat,(H8 bs fIx s).1=(N:Int):=⟨(H8 bs fIx s).1.toNat,by omega⟩
 have hdec:a8M bs op a s=((op,a,(H8 bs R6 (Q2 bs (IntKind.u8.wrap a) N (H8 bs fIx s).2 []).2).1,(Q2 bs (IntKind.u8.wrap a) N (H8 bs fIx s).2 []).1),(H8 bs R6 (Q2 bs (IntKind.u8.wrap a) N (H8 bs fIx s).2 []).2).2):=by
  unfold a8M;rw[hN];rfl
 rw[hN]
 refine b7c (I:=fun n x4 x7 x10 x13 x14 x15 T=>x4= .ptr k4 0∧x7= .ptr k7 0∧x10= .ptr k10 0∧x13= .ptr k13 0∧x14= .ptr k14 0∧x15= .int .i64 (n:Int)∧n≤N∧∃(s':Nat×Int) (acc:List (Int×Int)) (t:D),a0T S k4 k7 k10 (a1w op a 0 t) bs s' T∧s'.1≤bs.length∧
   w7 T k13 2 [.int .i64 4,a0B 0 4294967295]∧w7 T k14 2 [.int .i64 8,a7b (IntKind.u8.wrap a)]∧GrA S [k4,k7,k10,k13,k14] t (acc.map a2I) 2 T∧acc.length+n=N∧Q2 bs (IntKind.u8.wrap a) n s' acc=Q2 bs (IntKind.u8.wrap a) N (H8 bs fIx s).2 []) ?_ (n:=N)
  ⟨rfl,rfl,rfl,rfl,rfl,rfl,Nat.le_refl _,_,[], .nilSlc,h2,hs2,h13,h14,GrA.nil,by simp,rfl⟩
 rintro n _ _ _ _ _ _ T ⟨rfl,rfl,rfl,rfl,rfl,rfl,hnN,s',acc,t,hd,hs',g13,g14,hg,hacc,hrd⟩
 unfold a5Y
 have ld2:b9 T (.ptr k10 2)=some (.int .i64 s'.2):=hd.h10.ld 2
 have fin:(n=0∨s'.2≠0)→(a9 (j0 T 2 (.ptr k13 0)) fun v107=>o5 Try.prog E w0 C3 [.ptr k10 0,v107] T fun v108 S109=>a9 (m6 2 (.ptr k7 0)) fun v110=>i9 S109 1 v110 v108 fun v111 S112=>a0y E w0 (d9 E Q) (.ptr k4 0) (.ptr k7 0) (.ptr k10 0) S112):=fun hend=>by
  have hrd':Q2 bs (IntKind.u8.wrap a) N (H8 bs fIx s).2 []=(acc,s'):=by
   rw[←hrd]
   rcases hend with rfl|h
   ·rfl
   ·exact c0H h
  rw[hrd']at hdec
  rw[g13.all (n:=2) (by decide) rfl,oD]
  refine(a8t hd hb hl60 hs' (row:=[.int .i64 4,a0B 0 4294967295]) (f:=R6) ⟨_,rfl,b9w.bet _ _⟩ (by decide) (by decide)).use ?_
  rintro v T2 ⟨rfl,hd2,ke2⟩
  rw[H5,oD]
  refine hd2.h7.st (clI _ _) ⟨rfl,by decide,by simp[a1w]⟩ fun a7=> ?_
  have hd3:=hd2.set7 (c:=a1w op a (H8 bs R6 s').1 t) (a:=a7)
  have hg3:GrA S [k4,k7,k10,k13,k14] t (acc.map a2I) 2 (T2.set k7 ⟨4,[a1w op a (H8 bs R6 s').1 t],a7⟩):=(hg.of fun k o hk e=>by rw[ke2 k (fun e=>hk (by simp[e]))];exact e).set (.inl (by simp))
  refine c9K hd3.h4 hd3.h7 hd3.h10 rfl hg.cells fun S'' hS''=> ?_
  have hg4:GrA S [k4,k7,k10,k13,k14] t (acc.map a2I) 2 S'':=hg3.of fun k o hk e=>by rw[hS'' k (fun e=>hk (by simp[e]))];exact e
  have hle:S.le S'':=fun j o e=>by rw[hS'' j (fun e'=>by rw[e',hd.n4]at e;cases e)];exact hd3.le _ _ e
  obtain⟨S3,l3,g3⟩:=hg4.grw hle
  refine d9.less l3 ?_
  have:=hQ t S3 (by rw[hdec];exact g3)
  rw[hdec]at this
  exact this
 simp only[a3U,oD,ndP,H5,Nat.zero_add,ld2,a0E]
 by_cases h0:n=0
 ·subst h0
  simp only[Int.natCast_zero,gt_iff_lt,Int.lt_irrefl,decide_false,R7,vdF,oD,U3,Bool.false_eq_true,if_false,cdF,show((false==true)=false) from rfl]
  exact fin (.inl rfl)
 have hpos:decide ((n:Int)>0)=true:=decide_eq_true (by omega)
 simp only[hpos,R7,vdT,oD,U3,if_true,show((true==true)=true) from rfl,ndP,H5,Nat.zero_add,ld2,a0E]
 rw[cdB]
 refine⟨fun h0'=> ?_,fun h0'=> ?_⟩
 ·have hs0:s'.2=0:=by simpa using h0'
  rw[g14.all (n:=2) (by decide) rfl,oD]
  refine(a8t hd hb hl60 hs' (row:=[.int .i64 8,a7b (IntKind.u8.wrap a)]) (f:=vF (IntKind.u8.wrap a)) ⟨_,rfl,b9w.fit _⟩ (by show 1≤8;decide) (by show 8≤8;decide)).use ?_
  rintro v T2 ⟨rfl,hd2,ke2⟩
  have hs2':=c5n (f:=vF (IntKind.u8.wrap a)) hs'
  have f13:=g13.of (ke2 _ e13)
  have f14:=g14.of (ke2 _ e14)
  have ld3:b9 T2 (.ptr k7 3)=some t:=hd2.h7.ld 3
  rw[ld3,oD]
  rw[f13.all (n:=2) (by decide) rfl,oD]
  refine(a8t hd2 hb hl60 hs2' (row:=[.int .i64 4,a0B 0 4294967295]) (f:=R6) ⟨_,rfl,b9w.bet _ _⟩ (by decide) (by decide)).use ?_
  rintro v T3 ⟨rfl,hd3,ke3⟩
  have k7e:T3 k7=T2 k7:=ke3 _ hd.d710
  refine⟨by rw[fwP,k7e], ?_⟩
  have hfa:E6 (w6 [D.int .i64 0, .int .i64 0] [(0,1, .int .i64 (H8 bs (vF (IntKind.u8.wrap a)) s').1),(1,1, .int .i64 (H8 bs R6 (H8 bs (vF (IntKind.u8.wrap a)) s').2).1)])=some (.agg (a2I ((H8 bs (vF (IntKind.u8.wrap a)) s').1,(H8 bs R6 (H8 bs (vF (IntKind.u8.wrap a)) s').2).1))):=rfl
  rw[hfa,oD]
  refine P8 (rows:=[a2I _]) rfl ⟨by rw[fwP,k7e], ?_⟩
  have hg2:GrA S [k4,k7,k10,k13,k14] t (acc.map a2I) 2 T2:=hg.of fun k o hk e=>by rw[ke2 k (fun e=>hk (by simp[e]))];exact e
  have hg3:GrA S [k4,k7,k10,k13,k14] t (acc.map a2I) 2 T3:=hg2.of fun k o hk e=>by rw[ke3 k (fun e=>hk (by simp[e]))];exact e
  have q13:=f13.of (ke3 _ e13)
  have q14:=f14.of (ke3 _ e14)
  refine hg3.push hd3.le (fun j hj=> ?_) (news:=[a2I ((H8 bs (vF (IntKind.u8.wrap a)) s').1,(H8 bs R6 (H8 bs (vF (IntKind.u8.wrap a)) s').2).1)]) (by simp[rowsS,L7]) (by simp) (by simp;omega) fun t' T4 hle4 he4 hg4=> ?_
  ·simp only[List.mem_cons,List.not_mem_nil,or_false]at hj
   rcases hj with rfl|rfl|rfl|rfl|rfl
   ·exact hd3.h4.there
   ·exact hd3.h7.there
   ·exact hd3.h10.there
   ·exact q13.there
   ·exact q14.there
  have hd4:a0T S k4 k7 k10 (a1w op a 0 t) bs _ T4:=hd3.of hle4 fun j hj=>he4 j (by simp only[List.mem_cons,List.not_mem_nil,or_false]at hj ⊢;rcases hj with rfl|rfl|rfl<;>simp)
  refine hd4.h7.st (hg4.cells) ⟨rfl,by decide,by simp[a1w]⟩ fun a7=> ?_
  rw[b0O,oD,m8 (by omega) (by omega)]
  obtain⟨m,rfl⟩:∃m,n=m+1:=⟨n - 1,by omega⟩
  rw[Q2,if_neg (by simpa using hs0)]at hrd
  refine⟨m,by omega,by trivial,by trivial,by trivial,by trivial,by trivial,by congr 1;omega,by omega,_,acc++[_],t',hd4.set7 (c:=a1w op a 0 t'),c5n hs2', ?_, ?_, ?_,by simp;omega,hrd⟩
  ·exact(q13.of (he4 _ (by simp))).set_ne (Ne.symm d7.1)
  ·exact(q14.of (he4 _ (by simp))).set_ne (Ne.symm d7.2)
  ·rw[List.map_append]
   exact hg4.set (.inl (by simp))
 ·exact fin (.inr (by simpa using h0'))
end
end
section
section
variable{E:m7}{w0:o0}
theorem d6u(T:b7){k l:Nat}(h:k≠l)(z z' A B:M4):(((T.set k z).set l z').set k A).set l B=(T.set k A).set l B:=by
 rw[b7.set_in _ h,b7.set_set]
theorem d6t(T:b7){k l:Nat}(h:k≠l)(z z' A B:M4):(((T.set k z).set l z').set l B).set k A=(T.set k A).set l B:=by
 rw[b7.set_set,b7.set_in _ h]
theorem c7Q{bs:List Int}{j:Nat}{a b:Int}{s:Nat×Int}{f:Fld}{l:List Fld}(h:l[j]? =some f):c2p bs j a b s (l.drop j)=c2p bs (j+1) (if j=0 then(H8 bs f s).1 else a) (if j=0 then b else(H8 bs f s).1) (H8 bs f s).2 (l.drop (j+1)):=by
 obtain⟨hj,rfl⟩:=List.getElem?_eq_some_iff.1 h
 rw[List.drop_eq_getElem_cons hj,c2p]
theorem c0G{bs:List Int}(hb:∀b∈bs,K4 b)(hl:bs.length<2^30){n:Int}{S:b7}:o5 Try.prog E w0 a5H [bD bs, .int .i64 n] S fun v S'=>∃t,v=c5Q (I0 bs n) t∧Grw S t ((I0 bs n).1.2.2.2.map a2I) 2 S':=by
 refine b9p ?_
 unfold b6A
 intro k4 a4 n4
 have h4:w7 (S.set k4 ⟨4,[zC],a4⟩) k4 4 zC:=w7.new
 change a9 _ _
 have le4:S.le (S.set k4 ⟨4,[zC],a4⟩):=b7.le_new n4
 by_cases hn:n<0∨n≥bs.length
 ·have e:I0 bs n=(c8h,(0,2)):=by unfold I0;rw[if_pos hn]
  have fin:(a9 (E6 (w6 [(D.int .u8 0),(.int .i64 0),(.int .i64 0), .nilSlc] [])) fun v8=>i9 (S.set k4 ⟨4,[zC],a4⟩) 4 (.ptr k4 0) v8 fun v9 S10=>a9 (j0 S10 4 (.ptr k4 0)) fun v11=>d9 E (fun v S'=>∃t,v=c5Q (I0 bs n) t∧Grw S t ((I0 bs n).1.2.2.2.map a2I) 2 S') (.tup [v11,(.int .i64 0),(.int .i64 2)]) S10):=by
   rw[fiN,agS,oD]
   refine h4.st (clA _) ⟨rfl,by decide,by decide⟩ fun a=> ?_
   rw[(w7.new).all (n:=4) (by decide) rfl,oD,b7.set_set]
   refine d9.drop n4 (d9.here ⟨.nilSlc, ?_, ?_⟩)
   ·rw[e];rfl
   ·rw[e];exact Grw.nil _ _
  rw[J0,oD]
  by_cases h1:n<0
  ·rw[decide_eq_true h1]
   simp only[R7,vdF,oD,U3,if_true,cdT,show((true==false)=false) from rfl]
   exact fin
  ·have h2:decide (n≥(bs.length:Int))=true:=decide_eq_true (hn.resolve_left h1)
   rw[decide_eq_false h1]
   simp only[R7,vdT,oD,U3,Bool.false_eq_true,if_false,M6,b3b,h2,cdT,show((false==false)=true) from rfl]
   exact fin
 have hn0:¬n<0:=fun h=>hn (.inl h)
 have hn1:¬n≥(bs.length:Int):=fun h=>hn (.inr h)
 obtain⟨p,rfl⟩:∃p:Nat,n=(p:Int):=⟨n.toNat,by omega⟩
 have hp:p<bs.length:=by omega
 have edT:I0 bs (p:Int)=c3r bs p:=by unfold I0;rw[if_neg hn];rfl
 obtain⟨op,hop⟩:∃op,op=bs[p]:=⟨_,rfl⟩
 have hj:bs[p]? =some op:=by rw[List.getElem?_eq_getElem hp,hop]
 have hbop:K4 op:=hb op (by rw[hop];exact List.getElem_mem _)
 have egd:bs.getD p 0=op:=by rw[List.getD_eq_getElem?_getD,hj];rfl
 rw[J0,oD,decide_eq_false hn0]
 simp only[R7,vdT,oD,U3,Bool.false_eq_true,if_false,M6,b3b,decide_eq_false hn1,cdF,show((false==false)=true) from rfl]
 rw[b8C hj,oD,lsE,List.getElem?_cons_zero,oD]
 have hag:E6 (w6 [(D.int .u8 0),(.int .i64 0),(.int .i64 0), .nilSlc] [(0,1, .int .u8 op)])=some (.agg (a1w op 0 0 .nilSlc)):=rfl
 rw[hag,oD]
 intro k7 a7 n7
 have d47:k4≠k7:=h4.none n7
 have n7':S k7=none:=b7.none_of le4 n7
 have h7z:w7 ((S.set k4 ⟨4,[zC],a4⟩).set k7 ⟨4,[zC],a7⟩) k7 4 zC:=w7.new
 refine h7z.st (ds:=a1w op 0 0 .nilSlc) (clA _) ⟨rfl,by decide,by decide⟩ fun a7=> ?_
 rw[b7.set_set,show o8 zC 0 (a1w op 0 0 .nilSlc)=a1w op 0 0 .nilSlc from rfl]
 have h7:w7 ((S.set k4 ⟨4,[zC],a4⟩).set k7 ⟨4,[a1w op 0 0 .nilSlc],a7⟩) k7 4 (a1w op 0 0 .nilSlc):=w7.new
 have h4':=h4.set (o:=⟨4,[a1w op 0 0 .nilSlc],a7⟩) n7
 have le7:S.le ((S.set k4 ⟨4,[zC],a4⟩).set k7 ⟨4,[a1w op 0 0 .nilSlc],a7⟩):=b7.le_set le4 n7'
 generalize (S.set k4 ⟨4,[zC],a4⟩).set k7 ⟨4,[a1w op 0 0 .nilSlc],a7⟩=T7 at*
 rw[H5,oD,h7.ld,show(a1w op 0 0 .nilSlc)[0+0]? =some (.int .u8 op) from rfl,oD]
 refine b4j.use ?_
 simp only[exD,List.getElem?_cons_zero,List.getElem?_cons_succ,oD,unN]
 cases hlay:lay op with
 |none=>
  rw[show(!(none:Option (List Fld)).isSome)=true from rfl,cdT,fiN,agS,oD]
  have e:I0 bs (p:Int)=(c8h,(0,120)):=by rw[edT];unfold c3r;rw[egd,if_pos hlay]
  refine h4'.st (clA _) ⟨rfl,by decide,by decide⟩ fun a=> ?_
  rw[(w7.new).all (n:=4) (by decide) rfl,oD]
  refine d9.less (b7.le_set le7 n4) (d9.here ⟨.nilSlc, ?_, ?_⟩)
  ·rw[e];rfl
  ·rw[e];exact Grw.nil _ _
 |some l=>
 rw[show(!(some l).isSome)=false from rfl,cdF,C4,oD,m8 (by omega) (by omega)]
 have hag2:E6 (w6 [.nilSlc,(D.int .i64 0),(.int .i64 0)] [(0,1,bD bs),(1,1, .int .i64 ((p:Int)+1))])=some (.agg (rdC bs (p+1,0))):=rfl
 rw[hag2,oD,clA,oD]
 intro k10 a10 n10
 have hst:a0T S k4 k7 k10 (a1w op 0 0 .nilSlc) bs (p+1,0) (T7.set k10 ⟨3,[rdC bs (p+1,0)],a10⟩):=
  ⟨b7.le_set le7 (b7.none_of le7 n10),n4,n7',b7.none_of le7 n10,d47,h4'.set n10,h7.set n10,w7.new⟩
 have hl2:l.length≤2:=by have:=b5g (op:=op);rw[hlay]at this;exact this
 have hgood:∀f∈l,b1L f:=by have:=b8i op;rw[hlay]at this;exact this
 have hgd:(lay op).getD []=l:=by rw[hlay];rfl
 rw[lnL,oD,a5B,hgd]
 have hl60:bs.length<2^60:=by omega
 have edS:c3r bs p=if(b8o bs p).2.2≠0 then(c8h,(0,(b8o bs p).2.2)) else b8o bs p:=by
  unfold c3r;rw[egd,if_neg (by rw[hlay];simp)]
 refine b6t (I:=fun n x4 x7 x10 x45 x46 x47 T=>x4= .ptr k4 0∧x7= .ptr k7 0∧x10= .ptr k10 0∧x45= .lst (a4L op) 2∧x46= .int .i64 (l.length:Int)∧∃(j:Nat) (a b:Int) (s:Nat×Int),x47= .int .i64 (j:Int)∧j+n=l.length∧
   a0T S k4 k7 k10 (a1w op a b .nilSlc) bs s T∧s.1≤bs.length∧c2p bs j a b s (l.drop j)=Y7 bs l (p+1,0)) ?_ (n:=l.length)
  ⟨rfl,rfl,rfl,rfl,rfl,0,0,0,(p+1,0),rfl,by omega,hst,by show p+1≤bs.length;omega,d1G hl2⟩
 rintro n _ _ _ _ _ _ T ⟨rfl,rfl,rfl,rfl,rfl,j,a,b,s,rfl,hjn,hd,hs,hfold⟩
 unfold a6W
 rw[J0,oD,J6]
 refine⟨fun hlt=> ?_,fun hge=> ?_⟩
 ·have hlt:j<l.length:=by omega
  obtain⟨f,hf⟩:∃f,f=l[j]:=⟨_,rfl⟩
  have hjf:l[j]? =some f:=by rw[List.getElem?_eq_getElem hlt,hf]
  obtain⟨row,hrow,hfd⟩:=c6e (op:=op) (i:=j) (f:=f) (by rw[hgd];exact hjf)
  have hg:=hgood f (by rw[hf];exact List.getElem_mem _)
  have hg1:=hg.1
  have hg8:=a6g hg
  have hrl:=hfd.len
  rw[b5P hrow,oD,laE,if_pos ⟨by decide,by omega⟩,oD,List.drop_zero,List.take_of_length_le (by omega)]
  intro k ak nk
  refine(w7.new (sz:=2) (c:=[D.int .i64 0, .nilFn])).st (ds:=row) (clA _) ⟨hrl,by decide,by simp⟩ fun ak=> ?_
  rw[b7.set_set,d2Z hfd]
  have hd2:=hd.new (o:=⟨2,[row],ak⟩) nk
  have hc:w7 (T.set k ⟨2,[row],ak⟩) k 2 row:=w7.new
  change a9 _ _
  rw[c7Q hjf]at hfold
  have hI:=c5n (f:=f) hs
  rw[a0E,oD,cdB]
  refine⟨fun h0=> ?_,fun h0=> ?_⟩
  ·have h0:j=0:=by have:(j:Int)=0:=by simpa using h0
                   omega
   rw[if_pos h0,if_pos h0]at hfold
   rw[hc.all (n:=2) (by decide) hrl.symm,oD]
   refine(a8t hd2 hb hl60 hs hfd hg1 hg8).use ?_
   rintro v T2 ⟨rfl,hd3,_⟩
   rw[H5,oD]
   refine hd3.h7.st (clI _ _) ⟨rfl,by decide,by simp[a1w]⟩ fun a7=> ?_
   rw[C4,oD,m8 (by omega) (by omega)]
   exact⟨n - 1,by omega,rfl,rfl,rfl,rfl,rfl,j+1,_,b,_,rfl,by omega,hd3.set7 (c:=a1w op (H8 bs f s).1 b .nilSlc),hI,hfold⟩
  ·have h0:¬j=0:=by have:¬(j:Int)=0:=by simpa using h0
                    omega
   rw[if_neg h0,if_neg h0]at hfold
   rw[hc.all (n:=2) (by decide) hrl.symm,oD]
   refine(a8t hd2 hb hl60 hs hfd hg1 hg8).use ?_
   rintro v T2 ⟨rfl,hd3,_⟩
   rw[H5,oD]
   refine hd3.h7.st (clI _ _) ⟨rfl,by decide,by simp[a1w]⟩ fun a7=> ?_
   rw[C4,oD,m8 (by omega) (by omega)]
   exact⟨n - 1,by omega,rfl,rfl,rfl,rfl,rfl,j+1,a,_,_,rfl,by omega,hd3.set7 (c:=a1w op a (H8 bs f s).1 .nilSlc),hI,hfold⟩
 ·have hj':j=l.length:=by omega
  subst hj'
  rw[List.drop_length,c2p]at hfold
  rw[H5,oD,hd.h7.ld,show(a1w op a b .nilSlc)[0+0]? =some (.int .u8 op) from rfl,oD,a0E,oD,cdB]
  refine⟨fun h49=> ?_,fun h49=> ?_⟩
  ·have h49:op=49:=by simpa using h49
   have hb0:b=0:=by
    have hl1:=d3T hlay h49
    rw[hl1]at hfold
    exact congrArg (fun q:Int×Int×(Nat×Int)=>q.2.1) hfold
   subst hb0
   have edX:b8o bs p=a8M bs 49 a s:=by unfold b8o;rw[egd,if_pos h49,hgd, ←hfold]
   have d7:∀ {k:Nat},T k=none→k7≠k:=fun hk=>hd.h7.none hk
   have hfin:∀ {k l:Nat} {T':b7},T k=none→T l=none→a0T S k4 k7 k10 (a1w op a 0 .nilSlc) bs s T'→w7 T' k 2 [.int .i64 4,a0B 0 4294967295]→w7 T' l 2 [.int .i64 8,a7b (IntKind.u8.wrap a)]→
     u7 E w0 (d9 E (fun v S'=>∃t,v=c5Q (I0 bs (p:Int)) t∧Grw S t ((I0 bs (p:Int)).1.2.2.2.map a2I) 2 S')) (.ptr k4 0) (.ptr k7 0) (.ptr k10 0) (.ptr k 0) (.ptr l 0) T':=fun{k l T'} nk nl hd' c1 c2=>by
    refine d5a hb hl hd' hs c1 c2 (b7.none_of hd.le nk) (b7.none_of hd.le nl) ⟨d7 nk,d7 nl⟩ fun t S' hg=> ?_
    rw[h49]
    rw[h49]at hg
    by_cases he:(a8M bs 49 a s).2.2=0
    ·rw[if_pos he]
     have e:I0 bs (p:Int)=a8M bs 49 a s:=by rw[edT,edS,edX,if_neg (by simp[he])]
     refine d9.here ⟨t, ?_,by rw[e];exact hg⟩
     rw[e]
     unfold c5Q
     rw[he]
     rfl
    ·rw[if_neg he]
     have e:I0 bs (p:Int)=(c8h,(0,(a8M bs 49 a s).2.2)):=by rw[edT,edS,edX,if_pos he]
     refine d9.less hg.le (d9.here ⟨.nilSlc, ?_,by rw[e];exact Grw.nil _ _⟩)
     rw[e];rfl
   have ld1:b9 T (.ptr k7 (0+1))=some (.int .i64 a):=hd.h7.ld 1
   have hA:∀ {k l:Nat} {ak al:List AV},T k=none→(T.set k ⟨2,[[.int .i64 0, .nilFn]],ak⟩) l=none→∀ak al,u7 E w0 (d9 E (fun v S'=>∃t,v=c5Q (I0 bs (p:Int)) t∧Grw S t ((I0 bs (p:Int)).1.2.2.2.map a2I) 2 S')) (.ptr k4 0) (.ptr k7 0) (.ptr k10 0) (.ptr k 0) (.ptr l 0)
     ((T.set k ⟨2,[[.int .i64 4,a0B 0 4294967295]],ak⟩).set l ⟨2,[[.int .i64 8,a7b (IntKind.u8.wrap a)]],al⟩):=fun{k l _ _} nk nl ak al=>by
    obtain⟨ne,nl'⟩:=b7.fresh nl
    have nl2:(T.set k ⟨2,[[.int .i64 4,a0B 0 4294967295]],ak⟩) l=none:=by rw[b7.set_ne _ _ _ ne];exact nl'
    exact hfin nk nl' ((hd.new nk).new nl2) ((w7.new).set nl2) w7.new
   have hB:∀ {k l:Nat} {ak al:List AV},T k=none→(T.set k ⟨2,[[.int .i64 0, .nilFn]],ak⟩) l=none→∀ak al,u7 E w0 (d9 E (fun v S'=>∃t,v=c5Q (I0 bs (p:Int)) t∧Grw S t ((I0 bs (p:Int)).1.2.2.2.map a2I) 2 S')) (.ptr k4 0) (.ptr k7 0) (.ptr k10 0) (.ptr l 0) (.ptr k 0)
     ((T.set k ⟨2,[[.int .i64 8,a7b (IntKind.u8.wrap a)]],ak⟩).set l ⟨2,[[.int .i64 4,a0B 0 4294967295]],al⟩):=fun{k l _ _} nk nl ak al=>by
    obtain⟨ne,nl'⟩:=b7.fresh nl
    have nl2:(T.set k ⟨2,[[.int .i64 8,a7b (IntKind.u8.wrap a)]],ak⟩) l=none:=by rw[b7.set_ne _ _ _ ne];exact nl'
    exact hfin nl' nk ((hd.new nk).new nl2) w7.new ((w7.new).set nl2)
   have l0:∀ {k:Nat} {o:M4},T k=none→(T.set k o) k7=T k7:=fun nk=>b7.set_ne _ _ _ (d7 nk)
   simp only[H5,oD,ld1,cvI]
   repeat' (refine And.intro ?_ ?_)
   all_goals (repeat (first|refine G3.use ?_|refine a1k.use ?_|refine⟨fwR _ _, ?_⟩|rw[a4T (b3X _ _),oD]|rw[a4T (c2b _),oD]))
   all_goals (intro k ak nk)
   all_goals (have f1:=l0 (o:=⟨2,[[.int .i64 0, .nilFn]],ak⟩) nk)
   all_goals (repeat (first|refine G3.use ?_|refine a1k.use ?_|rw[a4T (b3X _ _),oD]|rw[a4T (c2b _),oD]|refine⟨f1, ?_⟩))
   all_goals (intro l' al nl)
   all_goals (have f2:∀ {o:M4},((T.set k ⟨2,[[.int .i64 0, .nilFn]],ak⟩).set l' o) k7=T k7:=fun{o}=>by rw[b7.set_ne _ _ _ (d7 (b7.fresh nl).2)];exact f1)
   all_goals (have ne:k≠l':=Ne.symm (b7.fresh nl).1)
   all_goals (repeat (first|refine G3.use ?_|refine a1k.use ?_|rw[a4T (b3X _ _),oD]|rw[a4T (c2b _),oD]|refine⟨f2, ?_⟩))
   all_goals (first
    |refine stP (k:=k) (cs:=[.int .i64 0, .nilFn]) (b7.set_ne _ _ _ ne |>.trans (b7.set_same _ _ _)) (clA _) ⟨rfl,by decide,by simp⟩ fun a1=> ?_
    |refine stP (k:=l') (cs:=[.int .i64 0, .nilFn]) (b7.set_same _ _ _) (clA _) ⟨rfl,by decide,by simp⟩ fun a1=> ?_)
   all_goals (first
    |refine stP (k:=l') (cs:=[.int .i64 0, .nilFn]) ((b7.set_ne _ _ _ (Ne.symm ne)).trans (b7.set_same _ _ _)) (clA _) ⟨rfl,by decide,by simp⟩ fun a2=> ?_
    |refine stP (k:=k) (cs:=[.int .i64 0, .nilFn]) (((b7.set_ne _ _ _ ne).trans (b7.set_ne _ _ _ ne)).trans (b7.set_same _ _ _)) (clA _) ⟨rfl,by decide,by simp⟩ fun a2=> ?_)
   all_goals (first|rw[d6u _ ne]|rw[d6t _ ne])
   all_goals (first|exact hA (al:=al) nk nl _ _|exact hB (al:=al) nk nl _ _)
  ·have h49:¬op=49:=by simpa using h49
   have edX:b8o bs p=((op,a,b,[]),s):=by unfold b8o;rw[egd,if_neg h49,hgd, ←hfold]
   refine c9K hd.h4 hd.h7 hd.h10 rfl rfl fun S'' hS''=> ?_
   have hle:S.le S'':=fun i o e=>by rw[hS'' i (fun e'=>by rw[e',hd.n4]at e;cases e)];exact hd.le _ _ e
   refine d9.less hle (d9.here ⟨.nilSlc, ?_, ?_⟩)
   ·by_cases he:s.2=0
    ·rw[if_pos he,edT,edS,edX,if_neg (by simp[he])]
     unfold c5Q;rw[he]
    ·rw[if_neg he,edT,edS,edX,if_pos (by simpa using he)];rfl
   ·rw[edT,edS,edX]
    by_cases he:s.2=0
    ·rw[if_neg (by simp[he])];exact Grw.nil _ _
    ·rw[if_pos (by simpa using he)];exact Grw.nil _ _
end
end
end Go.Proofs.Ytchnpgddpaonhaa.d
end
section
namespace Go.Am
def ob:D→List Nat
 | .raw k _ _ _ _ _=>[k]
 |_=>[]
section
variable{S T:b7}{av:List Nat}{t u:D}{rows rows':List (List D)}{sz sz':Nat}
theorem GrA.ob_some(h:GrA S av t rows sz T):∀j∈ob t,T j≠Option.none:=by
 rcases h with ⟨rfl,_⟩|⟨k,acs,_,_,rfl,h3⟩
 ·simp[ob]
 ·simp[ob,h3]
theorem GrA.ob_av(h:GrA S av t rows sz T):∀j∈ob t,j ∉ av:=by
 rcases h with ⟨rfl,_⟩|⟨k,acs,_,h1,rfl,_⟩
 ·simp[ob]
 ·simpa [ob]using h1
theorem GrA.apart(h:GrA S av t rows sz T){T':b7}{av':List Nat}(e:∀j∈ob t,T' j=T j)(ha:∀j∈ob t,j ∉ av'):GrA S av' t rows sz T':=by
 rcases h with h|⟨k,acs,h0,h1,rfl,h3⟩
 ·exact .inl h
 ·exact .inr ⟨k,acs,h0,ha k (by simp[ob]),rfl,by rw[e k (by simp[ob])];exact h3⟩
theorem d9.grA{E:m7}{Q:D→b7→Prop}{pre post:List D}(h:GrA S av t rows sz T)(hle:S.le T)(hQ:∀T',S.le T'→(∀j,j ∉ ob t→T' j=T j)→d9 E Q (.tup (pre++ .lst rows sz::post)) T'):d9 E Q (.tup (pre++t::post)) T:=by
 rcases h with ⟨rfl,rfl⟩|⟨k,acs,h0,h1,rfl,h3⟩
 ·exact d9.nilT (hQ T hle fun _ _=>rfl)
 ·refine d9.freezeT h3 rfl (by simp) (Nat.le_refl _) ?_
  simpa using hQ (T.erase k) (b7.le_erase hle h0) fun j hj=>b7.erase_ne _ _ (by simpa [ob]using hj)
def GrP(S:b7)(av:List Nat)(t:D)(rows:List (List D))(sz:Nat)(u:D)(rows':List (List D))(sz':Nat)(T:b7):Prop:=
 S.le T∧(∀j∈av,T j≠Option.none)∧GrA S (ob u++av) t rows sz T∧GrA S (ob t++av) u rows' sz' T
theorem GrP.nil:GrP S [] .nilSlc [] sz .nilSlc [] sz' S:=⟨b7.le_refl _,by simp,GrA.nil,GrA.nil⟩
theorem GrP.swap(h:GrP S av t rows sz u rows' sz' T):GrP S av u rows' sz' t rows sz T:=⟨h.1,h.2.1,h.2.2.2,h.2.2.1⟩
theorem GrP.push(h:GrP S av t rows sz u rows' sz' T){bytes:Nat}{v:D}{news:List (List D)}(hv:rowsS T sz v=some news)(hn:news≠[])(hb:0<bytes∧(2*(rows.length+news.length)+768)*bytes≤2^47){K:D→b7→Prop}
  (hK:∀t' T',(∀j∈av,T' j=T j)→GrP S av t' (rows++news) sz u rows' sz' T'→K t' T'):A1 T sz bytes t v K:=by
 obtain⟨h1,h2,h3,h4⟩:=h
 refine h3.push h1 (fun j hj=> ?_) hv hn hb fun t' T' hle he hg=>hK t' T' (fun j hj=>he j (List.mem_append_right _ hj)) ⟨hle,fun j hj=> ?_,hg, ?_⟩
 ·rcases List.mem_append.1 hj with hj|hj
  ·exact h4.ob_some j hj
  ·exact h2 j hj
 ·rw[he j (List.mem_append_right _ hj)];exact h2 j hj
 ·refine h4.apart (fun j hj=>he j (List.mem_append_left _ hj)) fun j hj hm=> ?_
  rcases List.mem_append.1 hm with hm|hm
  ·exact hg.ob_av j hm (List.mem_append_left _ hj)
  ·exact h4.ob_av j hj (List.mem_append_right _ hm)
theorem GrP.set(h:GrP S av t rows sz u rows' sz' T){l:Nat}{o:M4}(hl:T l=Option.none):GrP S av t rows sz u rows' sz' (T.set l o):=by
 obtain⟨h1,h2,h3,h4⟩:=h
 exact⟨b7.le_set h1 (b7.none_of h1 hl),fun j hj=>(by rw[b7.set_ne _ _ _ (fun e=>h2 j hj (by rw[e];exact hl))];exact h2 j hj),h3.set (.inr hl),h4.set (.inr hl)⟩
theorem GrP.more(h:GrP S av t rows sz u rows' sz' T){l:Nat}{o:M4}(hl:T l=Option.none):GrP S (l::av) t rows sz u rows' sz' (T.set l o):=by
 have hs:=h.set (o:=o) hl
 have n1:∀j∈ob t,j≠l:=fun j hj e=>h.2.2.1.ob_some j hj (e▸hl)
 have n2:∀j∈ob u,j≠l:=fun j hj e=>h.2.2.2.ob_some j hj (e▸hl)
 refine⟨hs.1,fun j hj=> ?_,hs.2.2.1.apart (fun _ _=>rfl) fun j hj hm=> ?_,hs.2.2.2.apart (fun _ _=>rfl) fun j hj hm=> ?_⟩
 ·rcases List.mem_cons.1 hj with rfl|hj
  ·rw[b7.set_same];simp
  ·exact hs.2.1 j hj
 ·rcases List.mem_append.1 hm with hm|hm
  ·exact hs.2.2.1.ob_av j hj (List.mem_append_left _ hm)
  ·rcases List.mem_cons.1 hm with rfl|hm
   ·exact n1 _ hj rfl
   ·exact hs.2.2.1.ob_av j hj (List.mem_append_right _ hm)
 ·rcases List.mem_append.1 hm with hm|hm
  ·exact hs.2.2.2.ob_av j hj (List.mem_append_left _ hm)
  ·rcases List.mem_cons.1 hm with rfl|hm
   ·exact n2 _ hj rfl
   ·exact hs.2.2.2.ob_av j hj (List.mem_append_right _ hm)
theorem GrP.fin{E:m7}{Q:D→b7→Prop}{post:List D}(h:GrP S av t rows sz u rows' sz' T)(hQ:d9 E Q (.tup (.lst rows sz:: .lst rows' sz'::post)) S):d9 E Q (.tup (t::u::post)) T:=by
 obtain⟨h1,h2,h3,h4⟩:=h
 refine d9.grA (pre:=[]) h3 h1 fun T' hle he=> ?_
 have h4':GrA S (ob t++av) u rows' sz' T':=h4.apart (fun j hj=>he j fun hm=>h3.ob_av j hm (List.mem_append_left _ hj)) fun j hj hm=>h4.ob_av j hj hm
 exact d9.grA (pre:=[.lst rows sz]) h4' hle fun T2 hle2 _=>d9.less hle2 hQ
end
end Go.Am
end
section
open Go.Proofs Go Go.Am Go.Op
namespace Go.Proofs.Ytchnpgddpaonhaa.d
section
section
variable{E:m7}{w0:o0}
theorem c4K(m:Mo):(moC m)[0]? =some (b3J m.types)∧(moC m)[1]? =some (b0Y m.texts)∧(moC m)[2]? =some (b3S m.funcs):=⟨rfl,rfl,rfl⟩
theorem b6z{a b:Mo}(ha:a.Ok)(hb:b.Ok):X6 Try.prog E w0 a4e [moD a,moD b] (.bool (decide (a=b))):=fun S=>by
 refine b3N ?_
 unfold a8x
 rw[moD,clA,oD]
 intro k c n
 rw[moD,clA,oD]
 intro k2 c2 n2
 obtain⟨ne2,n2'⟩:=b7.fresh n2
 generalize hS3:(S.set k _).set k2 _=S3
 have h2:S3 k2=some ⟨3,[moC b],c2⟩:=by rw[←hS3];exact b7.set_same _ _ _
 have h0:S3 k=some ⟨3,[moC a],c⟩:=by rw[←hS3,b7.set_ne _ _ _ (Ne.symm ne2)];exact b7.set_same _ _ _
 have hle:S.le S3:=by rw[←hS3];exact b7.le_set (b7.le_new n) n2'
 have fin:∀v:Bool,decide (a=b)=v→d9 E (fun d' S'=>d'=D.bool (decide (a=b))∧S'=S) (.bool v) S3:=fun v h=>by rw[h];exact d9.less hle d9.pure
 obtain⟨xa0,xa1,xa2⟩:=c4K a
 obtain⟨xb0,xb1,xb2⟩:=c4K b
 have:=ha.types;have:=hb.types;have:=ha.texts;have:=hb.texts;have:=ha.funcs;have:=hb.funcs
 simp only[H5,oD,ldP h2,ldP h0,Nat.zero_add,xa0,xb0,a3l,b0B]
 rw[c6y]
 by_cases e0:a.types.length=b.types.length
 ·rw[decide_eq_false (show ¬((a.types.length:Int)≠b.types.length) by omega)]
  simp only[R7,t2,vdT,oD,ldP h2,ldP h0,xa1,xb1,a4H,b0B,U3,Bool.false_eq_true,if_false]
  rw[c6y]
  by_cases e1:a.texts.length=b.texts.length
  ·rw[decide_eq_false (show ¬((a.texts.length:Int)≠b.texts.length) by omega)]
   simp only[R7,t2,vdT,oD,ldP h2,ldP h0,xa2,xb2,a4Q,b0B,U3,Bool.false_eq_true,if_false]
   rw[c6y,J6]
   refine⟨fun hne=>fin false (decide_eq_false fun h=>hne (by rw[h])),fun he=> ?_⟩
   have e2:a.funcs.length=b.funcs.length:=by omega
   refine b1h (I:=fun n x2 x3 x5 S'=>S3=S'∧x2= .ptr k 0∧x3= .ptr k2 0∧∃i:Nat,x5= .int .i64 (i:Int)∧i+n=a.types.length∧a.types.take i=b.types.take i) ?_ (n:=a.types.length) ⟨rfl,rfl,rfl,0,rfl,by omega,rfl⟩
   rintro n _ _ _ _ ⟨rfl,rfl,rfl,i,rfl,hi,ht⟩
   unfold a2b
   simp only[H5,oD,ldP h2,ldP h0,Nat.zero_add,xa0,xb0,a3l,J0]
   rw[J6]
   refine⟨fun hlt=> ?_,fun hge=> ?_⟩
   ·have hlt:i<a.types.length:=by omega
    have ea:a.types[i]? =some a.types[i]:=List.getElem?_eq_getElem hlt
    have eb:b.types[i]? =some b.types[i]:=List.getElem?_eq_getElem (by omega)
    simp only[b0n ea,b0n eb,oD,d3j]
    refine(b9S (ha.ty _ (List.getElem_mem _)) (hb.ty _ (List.getElem_mem _))).use ?_
    rw[unN,oD, ←decide_not,J6]
    refine⟨fun hne=>fin false (decide_eq_false fun h=>hne (by simp only[h])),fun he=> ?_⟩
    rw[C4,oD,m8 (by omega) (by omega)]
    refine⟨n - 1,by omega,by trivial,by trivial,by trivial,i+1,rfl,by omega, ?_⟩
    rw[List.take_add_one,List.take_add_one,ht,ea,eb,Classical.not_not.1 he]
   ·rw[List.take_of_length_le (by omega),List.take_of_length_le (by omega)]at ht
    refine b1k (I:=fun n x2 x3 x5 S'=>S3=S'∧x2= .ptr k 0∧x3= .ptr k2 0∧∃i:Nat,x5= .int .i64 (i:Int)∧i+n=a.texts.length∧a.texts.take i=b.texts.take i) ?_ (n:=a.texts.length) ⟨rfl,rfl,rfl,0,rfl,by omega,rfl⟩
    clear hi hge
    rintro n _ _ _ _ ⟨rfl,rfl,rfl,i,rfl,hi,ht1⟩
    unfold a2k
    simp only[H5,oD,ldP h2,ldP h0,Nat.zero_add,xa1,xb1,a4H,J0]
    rw[J6]
    refine⟨fun hlt=> ?_,fun hge=> ?_⟩
    ·have hlt:i<a.texts.length:=by omega
     have ea:a.texts[i]? =some a.texts[i]:=List.getElem?_eq_getElem hlt
     have eb:b.texts[i]? =some b.texts[i]:=List.getElem?_eq_getElem (by omega)
     simp only[b6J ea,b6J eb,oD,lsE,List.getElem?_cons_zero,d6l]
     rw[d0A, ←decide_not,J6]
     refine⟨fun hne=>fin false (decide_eq_false fun h=>hne (by simp only[h])),fun he=> ?_⟩
     rw[C4,oD,m8 (by omega) (by omega)]
     refine⟨n - 1,by omega,by trivial,by trivial,by trivial,i+1,rfl,by omega, ?_⟩
     rw[List.take_add_one,List.take_add_one,ht1,ea,eb,Classical.not_not.1 he]
    ·rw[List.take_of_length_le (by omega),List.take_of_length_le (by omega)]at ht1
     refine b1i (I:=fun n x2 x3 x5 S'=>S3=S'∧x2= .ptr k 0∧x3= .ptr k2 0∧∃i:Nat,x5= .int .i64 (i:Int)∧i+n=a.funcs.length∧a.funcs.take i=b.funcs.take i) ?_ (n:=a.funcs.length) ⟨rfl,rfl,rfl,0,rfl,by omega,rfl⟩
     clear hi hge
     rintro n _ _ _ _ ⟨rfl,rfl,rfl,i,rfl,hi,ht2⟩
     unfold a2n
     simp only[H5,oD,ldP h2,ldP h0,Nat.zero_add,xa2,xb2,a4Q,J0]
     rw[J6]
     refine⟨fun hlt=> ?_,fun hge=> ?_⟩
     ·have hlt:i<a.funcs.length:=by omega
      have ea:a.funcs[i]? =some a.funcs[i]:=List.getElem?_eq_getElem hlt
      have eb:b.funcs[i]? =some b.funcs[i]:=List.getElem?_eq_getElem (by omega)
      simp only[b3w ea,b3w eb,oD,d3N]
      refine(b4M (ha.ro _ (List.getElem_mem _)) (hb.ro _ (List.getElem_mem _))).use ?_
      rw[unN,oD, ←decide_not,J6]
      refine⟨fun hne=>fin false (decide_eq_false fun h=>hne (by simp only[h])),fun he=> ?_⟩
      rw[C4,oD,m8 (by omega) (by omega)]
      refine⟨n - 1,by omega,by trivial,by trivial,by trivial,i+1,rfl,by omega, ?_⟩
      rw[List.take_add_one,List.take_add_one,ht2,ea,eb,Classical.not_not.1 he]
     ·rw[List.take_of_length_le (by omega),List.take_of_length_le (by omega)]at ht2
      refine fin true (decide_eq_true ?_)
      obtain⟨a1,a2,a3⟩:=a
      obtain⟨b1,b2,b3⟩:=b
      simp only at ht ht1 ht2
      rw[ht,ht1,ht2]
  ·rw[decide_eq_true (show((a.texts.length:Int)≠b.texts.length) by omega)]
   simp only[R7,t1,vdF,oD,U3,if_true,cdT]
   exact fin false (decide_eq_false fun h=>e1 (by rw[h]))
 ·rw[decide_eq_true (show((a.types.length:Int)≠b.types.length) by omega)]
  simp only[R7,t1,vdF,oD,U3,if_true,cdT]
  exact fin false (decide_eq_false fun h=>e0 (by rw[h]))
theorem b6o{b:Bool}{s N:Int}{K:D→Prop}(h:K (.bool (b&&decide (s≤N)))):a9 (f0 (d6 (.bool b) true) (some (.int .i64 s))) fun v17=>a9 (f0 (d6 (.bool b) true) (some (.int .i64 N))) fun v18=>a9 (f0 (d6 (.bool b) true) (d8 .leq v17 v18)) fun v19=>a9 (t8 (.bool b) v19 (.bool false)) fun v20=>K v20:=by
 cases b<;>simpa using h
structure Mo.Small (m:Mo) (N:Nat):Prop where
 types:m.types.length≤N
 texts:m.texts.length≤N
 funcs:m.funcs.length≤N
 fields:∀t∈m.types,t.fields.length≤N
 params:∀r∈m.funcs,r.params.length≤N∧r.results.length≤N∧r.code.length≤N
theorem c7o{m:Mo}(hm:m.Ok){N:Nat}(hN:N<2^40){S:b7}:o5 Try.prog E w0 b4W [moD m, .int .i64 (N:Int)] S fun d S'=>S'=S∧∃b:Int,d= .int .i64 b∧(b≤N→m.Small N):=by
 refine c3e ?_
 unfold c0z
 rw[moD,clA,oD]
 intro k c n
 have h0:(S.set k ⟨3,[moC m],c⟩) k=some ⟨3,[moC m],c⟩:=b7.set_same _ _ _
 have hle:S.le (S.set k ⟨3,[moC m],c⟩):=b7.le_new n
 have e3:(moC m).length=3:=rfl
 rw[e3]
 generalize S.set k ⟨3,[moC m],c⟩=S3 at h0 hle ⊢
 obtain⟨xa0,xa1,xa2⟩:=c4K m
 have:=hm.types;have:=hm.texts;have:=hm.funcs
 simp only[H5,oD,ldP h0,Nat.zero_add,xa0,xa1,xa2,a3l,a4H,a4Q,C4]
 rw[show IntKind.i64.wrap ((m.types.length:Int)+m.texts.length)=_ from m8 (by omega) (by omega),show IntKind.i64.wrap ((m.types.length:Int)+m.texts.length+m.funcs.length)=_ from m8 (by omega) (by omega)]
 refine b9i (I:=fun n x1 x2 x5 x6 S'=>S3=S'∧x1= .int .i64 (N:Int)∧x2= .ptr k 0∧∃(i:Nat) (s:Int),x6= .int .i64 (i:Int)∧x5= .int .i64 s∧i+n=m.types.length∧m.types.length≤s∧m.texts.length≤s∧m.funcs.length≤s∧s<2^50∧∀t∈m.types.take i,(t.fields.length:Int)≤s) ?_ (n:=m.types.length)
  ⟨rfl,rfl,rfl,0,_,rfl,rfl,by omega,by omega,by omega,by omega,by omega,by simp⟩
 rintro n _ _ _ _ _ ⟨rfl,rfl,rfl,i,s,rfl,rfl,hi,s1,s2,s3,s4,hs⟩
 unfold a9J
 simp only[H5,oD,ldP h0,Nat.zero_add,xa0,a3l,J0]
 refine b6o ?_
 rw[←Bool.decide_and,J6]
 refine⟨fun⟨hlt,hsN⟩=> ?_,fun hge=> ?_⟩
 ·have hlt:i<m.types.length:=by omega
  obtain⟨t,ht⟩:∃t,t=m.types[i]:=⟨_,rfl⟩
  have ea:m.types[i]? =some t:=by rw[List.getElem?_eq_getElem hlt,ht]
  have htk:=hm.ty t (by rw[ht];exact List.getElem_mem _)
  have l1:=htk.name
  have l2:=htk.fields
  simp only[b0n ea,oD,ofE,lsE,show(M1 t)[0+1]? =some (.str t.name) from rfl,show(M1 t)[0+2]? =some (a0U t.fields) from rfl,show(M1 t)[1]? =some (.str t.name) from rfl,show(M1 t)[2]? =some (a0U t.fields) from rfl,Nat.zero_add,lnS,Y5,C4]
  rw[show IntKind.i64.wrap (s+t.name.length)=_ from m8 (by omega) (by omega),show IntKind.i64.wrap (s+t.name.length+t.fields.length)=_ from m8 (by omega) (by omega)]
  refine b9Y (I:=fun n' x1 x2 x5 x6 x7 S'=>S3=S'∧x1= .int .i64 (N:Int)∧x2= .ptr k 0∧x6= .int .i64 (i:Int)∧∃(j:Nat) (q:Int),x7= .int .i64 (j:Int)∧x5= .int .i64 q∧j+n'=t.fields.length∧s≤q∧t.fields.length≤q∧q<2^50) ?_ (n:=t.fields.length)
   ⟨rfl,rfl,rfl,rfl,0,_,rfl,rfl,by omega,by omega,by omega,by omega⟩
  rintro n' _ _ _ _ _ _ ⟨rfl,rfl,rfl,rfl,j,q,rfl,rfl,hj,q1,q2,q3⟩
  unfold a9O
  simp only[H5,oD,ldP h0,Nat.zero_add,xa0,b0n ea,ofE,lsE,show(M1 t)[2]? =some (a0U t.fields) from rfl,Y5,J0]
  refine b6o ?_
  rw[←Bool.decide_and,J6]
  refine⟨fun⟨hlt',hqN⟩=> ?_,fun hge=> ?_⟩
  ·have hlt':j<t.fields.length:=by omega
   obtain⟨f,hf⟩:∃f,f=t.fields[j]:=⟨_,rfl⟩
   have eb:t.fields[j]? =some f:=by rw[List.getElem?_eq_getElem hlt',hf]
   have l3:=(htk.names f (by rw[hf];exact List.getElem_mem _)).1
   simp only[a6S eb,oD,ofE,lsE,Nat.zero_add,show(U4 f)[0]? =some (.str f.1) from rfl,lnS,C4]
   rw[show IntKind.i64.wrap (q+f.1.length)=_ from m8 (by omega) (by omega),show IntKind.i64.wrap ((j:Int)+1)=_ from m8 (by omega) (by omega)]
   exact⟨n' - 1,by omega,by trivial,by trivial,by trivial,by trivial,j+1,_,rfl,rfl,by omega,by omega,by omega,by omega⟩
  ·rw[C4,oD,m8 (by omega) (by omega)]
   refine⟨n - 1,by omega,by trivial,by trivial,by trivial,i+1,q,rfl,rfl,by omega,by omega,by omega,by omega,by omega,fun t' ht'=> ?_⟩
   rw[List.take_add_one,ea,Option.toList_some]at ht'
   rcases List.mem_append.1 ht' with h|h
   ·have:=hs t' h;omega
   ·rw[List.mem_singleton.1 h];exact q2
 have hs:s≤N→∀t∈m.types,(t.fields.length:Int)≤s:=fun h=>by
  have:i=m.types.length:=by
   by_cases c:i<m.types.length
   ·exact(hge ⟨by omega,h⟩).elim
   ·omega
  rw[this,List.take_length]at hs
  exact hs
 clear hge hi
 refine b9o (I:=fun n x1 x2 x5 x6 S'=>S3=S'∧x1= .int .i64 (N:Int)∧x2= .ptr k 0∧∃(i:Nat) (q:Int),x6= .int .i64 (i:Int)∧x5= .int .i64 q∧i+n=m.texts.length∧s≤q∧q<2^50) ?_ (n:=m.texts.length)
  ⟨rfl,rfl,rfl,0,_,rfl,rfl,by omega,by omega,by omega⟩
 rintro n _ _ _ _ _ ⟨rfl,rfl,rfl,i,q,rfl,rfl,hi,q1,q2⟩
 unfold a9k
 simp only[H5,oD,ldP h0,Nat.zero_add,xa1,a4H,J0]
 refine b6o ?_
 rw[←Bool.decide_and,J6]
 refine⟨fun⟨hlt,hsN⟩=> ?_,fun hge=> ?_⟩
 ·have hlt:i<m.texts.length:=by omega
  obtain⟨t,ht⟩:∃t,t=m.texts[i]:=⟨_,rfl⟩
  have ea:m.texts[i]? =some t:=by rw[List.getElem?_eq_getElem hlt,ht]
  have l1:=hm.tx t (by rw[ht];exact List.getElem_mem _)
  simp only[b6J ea,oD,lsE,List.getElem?_cons_zero,lnS,C4]
  rw[show IntKind.i64.wrap (q+t.length)=_ from m8 (by omega) (by omega),show IntKind.i64.wrap ((i:Int)+1)=_ from m8 (by omega) (by omega)]
  exact⟨n - 1,by omega,by trivial,by trivial,by trivial,i+1,_,rfl,rfl,by omega,by omega,by omega⟩
 clear hge hi
 refine b9D (I:=fun n x1 x2 x5 x6 S'=>S3.le S'∧x1= .int .i64 (N:Int)∧x2= .ptr k 0∧∃(i:Nat) (p:Int),x6= .int .i64 (i:Int)∧x5= .int .i64 p∧i+n=m.funcs.length∧q≤p∧p<2^50∧∀r∈m.funcs.take i,(r.params.length:Int)≤p∧r.results.length≤p∧r.code.length≤p) ?_ (n:=m.funcs.length)
  ⟨b7.le_refl _,rfl,rfl,0,_,rfl,rfl,by omega,by omega,by omega,by simp⟩
 rintro n _ _ _ _ S4 ⟨hle4,rfl,rfl,i,p,rfl,rfl,hi,p1,p2,hp⟩
 have h04:=hle4 _ _ h0
 unfold a8W
 simp only[H5,oD,ldP h04,Nat.zero_add,xa2,a4Q,J0]
 refine b6o ?_
 rw[←Bool.decide_and,J6]
 refine⟨fun⟨hlt,hsN⟩=> ?_,fun hge=> ?_⟩
 ·have hlt:i<m.funcs.length:=by omega
  obtain⟨r,hr⟩:∃r,r=m.funcs[i]:=⟨_,rfl⟩
  have ea:m.funcs[i]? =some r:=by rw[List.getElem?_eq_getElem hlt,hr]
  have hrk:=hm.ro r (by rw[hr];exact List.getElem_mem _)
  have l1:=hrk.name;have l2:=hrk.params;have l3:=hrk.results;have l4:=hrk.code
  simp only[b3w ea,oD,d3N]
  intro k5 a5 n5
  refine stP (ds:=roR r) (b7.set_same _ _ _) (clA _) ⟨rfl,by decide,by simp[roR]⟩ fun a6=> ?_
  rw[b7.set_set]
  have h5:∀j,b9 (S4.set k5 ⟨[D.str [], .nilSlc, .nilSlc, .int .i64 0, .int .i64 0, .nilSlc].length,[o8 [D.str [], .nilSlc, .nilSlc, .int .i64 0, .int .i64 0, .nilSlc] 0 (roR r)],a6⟩) (.ptr k5 j)=(roR r)[j]? :=fun j=>ldP (b7.set_same _ _ _)
  simp only[H5,oD,h5,Nat.zero_add,show(roR r)[0]? =some (.str r.name) from rfl,show(roR r)[1]? =some (iD r.params) from rfl,show(roR r)[2]? =some (iD r.results) from rfl,show(roR r)[5]? =some (bD r.code) from rfl,lnS,b1R,M6,C4]
  rw[show IntKind.i64.wrap (p+r.name.length)=_ from m8 (by omega) (by omega),show IntKind.i64.wrap (p+r.name.length+r.params.length)=_ from m8 (by omega) (by omega),show IntKind.i64.wrap (p+r.name.length+r.params.length+r.results.length)=_ from m8 (by omega) (by omega),show IntKind.i64.wrap (p+r.name.length+r.params.length+r.results.length+r.code.length)=_ from m8 (by omega) (by omega),show IntKind.i64.wrap ((i:Int)+1)=_ from m8 (by omega) (by omega)]
  refine⟨n - 1,by omega,b7.le_trans hle4 (b7.le_new n5),by trivial,by trivial,i+1,_,rfl,rfl,by omega,by omega,by omega,fun r' hr'=> ?_⟩
  rw[List.take_add_one,ea,Option.toList_some]at hr'
  rcases List.mem_append.1 hr' with h|h
  ·have:=hp r' h;omega
  ·rw[List.mem_singleton.1 h];omega
 ·refine d9.less (b7.le_trans hle hle4) (d9.here ⟨rfl,p,rfl,fun hpN=> ?_⟩)
  have:i=m.funcs.length:=by
   by_cases c:i<m.funcs.length
   ·exact(hge ⟨by omega,hpN⟩).elim
   ·omega
  rw[this,List.take_length]at hp
  exact⟨by omega,by omega,by omega,fun t ht=>by have:=hs (by omega) t ht;omega,fun r hr=>by have:=hp r hr;omega⟩
end
end
section
@[simp] theorem d5c(S:b7)(l:List (Tx×Int)):rowsS S 2 (a0U l)=some (l.map U4):=by simp[a0U,rowsS,L7]
@[simp] theorem d5i(S:b7)(l:List Tx):rowsS S 1 (b0Y l)=some (B0 (l.map D.str)):=by simp[b0Y,rowsS,L7]
theorem Grw.cells{S0 S:b7}{t:D}{rows:List (List D)}{sz:Nat}(g:Grw S0 t rows sz S):r4 t=some [t]:=by rcases g with ⟨rfl,_⟩|⟨_,_,_,rfl,_⟩<;>rfl
structure Mo.Fits (m:Mo):Prop where
 ok:m.Ok
 types:m.types.length<2^30
 texts:m.texts.length<2^30
 funcs:m.funcs.length<2^30
 fields:∀t∈m.types,t.fields.length<2^30
 params:∀r∈m.funcs,r.params.length<2^30∧r.results.length<2^30∧r.code.length<2^30
section
variable{E:m7}{w0:o0}
end
end
section
def X6(P:Program)(E:m7)(w0:o0)(f:FuncId)(ds:List D)(d:D):Prop:=∀S,o5 P E w0 f ds S fun d' S'=>d'=d∧S'=S
theorem X6.use{P:Program}{E:m7}{w0:o0}{f:FuncId}{ds:List D}{d:D}(h:X6 P E w0 f ds d){S:b7}{K:D→b7→Prop}(hk:K d S):o5 P E w0 f ds S K:=(h S).use fun d' S' ⟨a,b⟩=>by subst a b;exact hk
section
variable{E:m7}{w0:o0}
end
end
end Go.Proofs.Ytchnpgddpaonhaa.d
end
