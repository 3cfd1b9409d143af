/-
  BlocksCutsSaid: part Paw of its proof.
-/
import Derived.Test.YtdkidgkiplcggaaPav
import Derived.Test.YtdkidgkiplcggaaPat
import Derived.Test.YtdkidgkiplcggaaPau
import Derived.Test.YtdkidgkiplcggaaRows
import Derived.Test.YtdkidgkiplcggaaPar
import Derived.KernelRfl
set_option linter.unusedVariables false
set_option linter.unusedSimpArgs false
set_option maxRecDepth 100000
section
open Go.Proofs Go Go.Am Go.Op
namespace Go.Proofs.Ytdkidgkiplcggaa.d
section
def zC:List D:=[.int .u8 0, .int .i64 0, .int .i64 0, .nilSlc]
def E3(op a b:Int)(t:D):List D:=[.int .u8 op, .int .i64 a, .int .i64 b,t]
def c0O(r:Dat×(Nat×Int))(t:D):D:= .tup [.agg (E3 r.1.1 r.1.2.1 r.1.2.2.1 t), .int .i64 (r.2.1:Int), .int .i64 r.2.2]
section
variable{E:g8}{w0:j0}
theorem c4o{Q:D→b5→Prop}{S:b5}{k4 k7 k10:Nat}{c4:List D}{op a b:Int}{t:D}{bs:List Int}{s:Nat×Int}(h4:D3 S k4 4 c4)(h7:D3 S k7 4 (E3 op a b t))(h10:D3 S k10 3 (rdC bs s))(l4:c4.length=4)(ht:s5 t=some [t])
  (hQ:∀S',(∀j,j≠k4→S' j=S j)→b9 E Q (if s.2=0 then .tup [.agg (E3 op a b t), .int .i64 (s.1:Int), .int .i64 0]else .tup [.agg zC, .int .i64 0, .int .i64 s.2]) S'):Q6 E w0 (b9 E Q) (.ptr k4 0) (.ptr k7 0) (.ptr k10 0) S:=by
 refine b0F ?_
 unfold a6R
 have e410:k10≠k4:=h10.ne h4 (by decide)
 have ld2:(rdC bs s)[2]? =some (.int .i64 s.2):=rfl
 have ld1:(rdC bs s)[1]? =some (.int .i64 (s.1:Int)):=rfl
 simp only[ndP,ofP,oD,Nat.zero_add,h10.ld,ld2,ld1,a9c,fiN,agS]
 rw[b9v,V7]
 refine⟨fun he=> ?_,fun he=> ?_⟩
 ·refine h4.st (clA _) ⟨rfl,by decide,by omega⟩ fun a4=>⟨by rw[fwP,b5.set_ne _ _ _ e410], ?_⟩
  have hs:j4 c4 0 [D.int .u8 0, .int .i64 0, .int .i64 0, .nilSlc]=zC:=by
   match c4,l4 with
   | [_,_,_,_],_=>rfl
  rw[hs,(D3.new).all (n:=4) (by decide) rfl,oD]
  have:=hQ (S.set k4 ⟨4,[zC],a4⟩) (fun j hj=>b5.set_ne _ _ _ hj)
  rw[if_neg he]at this
  exact this
 ·rw[h7.all (n:=4) (by decide) rfl,oD]
  refine h4.st (ds:=E3 op a b t) (clA _) ⟨rfl,by decide,by omega⟩ fun a4=>⟨by rw[fwP,b5.set_ne _ _ _ e410], ?_⟩
  have hs:j4 c4 0 (E3 op a b t)=E3 op a b t:=by
   match c4,l4 with
   | [_,_,_,_],_=>rfl
  rw[hs,(D3.new).all (n:=4) (by decide) rfl,oD]
  have:=hQ (S.set k4 ⟨4,[E3 op a b t],a4⟩) (fun j hj=>b5.set_ne _ _ _ hj)
  rw[if_pos (Classical.not_not.1 he)]at this
  exact this
structure V0 (S:b5) (k4 k7 k10:Nat) (c7:List D) (bs:List Int) (s:Nat×Int) (S':b5):Prop where
 le:S.le S'
 n4:S k4=none
 n7:S k7=none
 n10:S k10=none
 d47:k4≠k7
 h4:D3 S' k4 4 zC
 h7:D3 S' k7 4 c7
 h10:D3 S' k10 3 (rdC bs s)
section
variable{S S':b5}{k4 k7 k10:Nat}{c7:List D}{bs:List Int}{s:Nat×Int}
theorem V0.d410(h:V0 S k4 k7 k10 c7 bs s S'):k4≠k10:=h.h4.ne h.h10 (by decide)
theorem V0.d710(h:V0 S k4 k7 k10 c7 bs s S'):k7≠k10:=h.h7.ne h.h10 (by decide)
theorem V0.set7(h:V0 S k4 k7 k10 c7 bs s S'){c:List D}{a:List AV}:V0 S k4 k7 k10 c bs s (S'.set k7 ⟨4,[c],a⟩):=
 ⟨b5.le_set h.le h.n7,h.n4,h.n7,h.n10,h.d47,h.h4.set_ne h.d47,D3.new,h.h10.set_ne (Ne.symm h.d710)⟩
theorem V0.set10(h:V0 S k4 k7 k10 c7 bs s S'){s':Nat×Int}{a:List AV}:V0 S k4 k7 k10 c7 bs s' (S'.set k10 ⟨3,[rdC bs s'],a⟩):=
 ⟨b5.le_set h.le h.n10,h.n4,h.n7,h.n10,h.d47,h.h4.set_ne h.d410,h.h7.set_ne h.d710,D3.new⟩
theorem V0.new(h:V0 S k4 k7 k10 c7 bs s S'){k:Nat}{o:A2}(hk:S' k=none):V0 S k4 k7 k10 c7 bs s (S'.set k o):=
 ⟨b5.le_set h.le (b5.none_of h.le hk),h.n4,h.n7,h.n10,h.d47,h.h4.set hk,h.h7.set hk,h.h10.set hk⟩
theorem V0.of(h:V0 S k4 k7 k10 c7 bs s S'){S2:b5}(hl:S.le S2)(e:∀j∈[k4,k7,k10],S2 j=S' j):V0 S k4 k7 k10 c7 bs s S2:=
 ⟨hl,h.n4,h.n7,h.n10,h.d47,h.h4.of (e _ (by simp)),h.h7.of (e _ (by simp)),h.h10.of (e _ (by simp))⟩
end
theorem c1q.len{row:List D}{f:Fld}(h:c1q row f):row.length=2:=by obtain⟨fv,rfl,_⟩:=h;rfl
theorem c8k{row:List D}{f:Fld}(h:c1q row f):j4 [D.int .i64 0, .nilFn] 0 row=row:=by obtain⟨fv,rfl,_⟩:=h;rfl
theorem a5G{S S':b5}{k4 k7 k10:Nat}{c7:List D}{bs:List Int}{s:Nat×Int}(h:V0 S k4 k7 k10 c7 bs s S')(hb:∀b∈bs,J0 b)(hl:bs.length<2^60)(hs:s.1≤bs.length){row:List D}{f:Fld}(hf:c1q row f)(h1:1≤f.size)(h8:f.size≤8):
  p8 Try.prog E w0 A0 [.ptr k10 0, .agg row] S' fun v S2=>v= .int .i64 (w9 bs f s).1∧V0 S k4 k7 k10 c7 bs (w9 bs f s).2 S2∧∀j,j≠k10→S2 j=S' j:=by
 obtain⟨a,e⟩:=h.h10
 refine(c2m hb hl hs hf h1 h8 e).use fun v S2 ⟨e1,a',e2⟩=>⟨e1, ?_, ?_⟩
 ·rw[e2];exact h.set10
 ·rw[e2];exact fun j hj=>b5.set_ne _ _ _ hj
theorem c4Z(bs:List Int)(f:Fld)(s:Nat×Int):(w9 bs f s).1=0∨f.may (w9 bs f s).1=true:=by
 unfold w9
 split
 ·exact .inl rfl
 split
 ·exact .inl rfl
 ·split
  ·rename_i m hm
   unfold rdN at hm
   simp only[Option.ite_none_right_eq_some,Option.some.injEq]at hm
   obtain⟨h1,h2⟩:=hm
   right;rw[←h2];exact h1
  ·exact .inl rfl
theorem c9K{Q:D→b5→Prop}{S:b5}{k4 k7 k10 k13 k14:Nat}{op a:Int}{bs:List Int}{s:Nat×Int}{S':b5}(hb:∀b∈bs,J0 b)(hl:bs.length<2^30)(h:V0 S k4 k7 k10 (E3 op a 0 .nilSlc) bs s S')(hs:s.1≤bs.length)
  (h13:D3 S' k13 2 [.int .i64 4,a0p 0 4294967295]) (h14:D3 S' k14 2 [.int .i64 8,a8Y (IntKind.u8.wrap a)]) (n13:S k13=none) (n14:S k14=none) (d7:k7≠k13∧k7≠k14)
  (hQ:∀t S',Grw S t ((a4A bs op a s).1.2.2.2.map Y1) 2 S'→b9 E Q (if(a4A bs op a s).2.2=0 then .tup [.agg (E3 op a (a4A bs op a s).1.2.2.1 t), .int .i64 ((a4A bs op a s).2.1:Int), .int .i64 0]else .tup [.agg zC, .int .i64 0, .int .i64 (a4A bs op a s).2.2]) S'):
  o8 E w0 (b9 E Q) (.ptr k4 0) (.ptr k7 0) (.ptr k10 0) (.ptr k13 0) (.ptr k14 0) S':=by
 refine b0l ?_
 unfold a6Y
 refine E0.use ?_
 rw[a3Q (b2d _ _),oD]
 have hl60:bs.length<2^60:=by omega
 refine(a5G h hb hl60 hs (row:=[.int .i64 2,a0p 0 65535]) (f:=fIx) ⟨_,rfl,b4R.bet _ _⟩ (by decide) (by decide)).use ?_
 rintro v S2 ⟨rfl,h2,ke⟩
 have hs2:=a2z (f:=fIx) hs
 have hn0:0≤(w9 bs fIx s).1∧(w9 bs fIx s).1≤65535:=by
  rcases c4Z bs fIx s with h|h
  ·omega
  ·exact of_decide_eq_true h
 have e13:k13≠k10:=h13.ne h.h10 (by decide)
 have e14:k14≠k10:=h14.ne h.h10 (by decide)
 have h13:=h13.of (ke _ e13)
 have h14:=h14.of (ke _ e14)
 obtain⟨N,hN⟩:∃N:Nat,(w9 bs fIx s).1=(N:Int):=⟨(w9 bs fIx s).1.toNat,by omega⟩
 have hdec:a4A bs op a s=((op,a,(w9 bs E1 (A5 bs (IntKind.u8.wrap a) N (w9 bs fIx s).2 []).2).1,(A5 bs (IntKind.u8.wrap a) N (w9 bs fIx s).2 []).1),(w9 bs E1 (A5 bs (IntKind.u8.wrap a) N (w9 bs fIx s).2 []).2).2):=by
  unfold a4A;rw[hN];rfl
 rw[hN]
 refine b0T (I:=fun n x4 x7 x10 x13 x14 x15 T=>x4= .ptr k4 0∧x7= .ptr k7 0∧x10= .ptr k10 0∧x13= .ptr k13 0∧x14= .ptr k14 0∧x15= .int .i64 (n:Int)∧n≤N∧∃(s':Nat×Int) (acc:List (Int×Int)) (t:D),V0 S k4 k7 k10 (E3 op a 0 t) bs s' T∧s'.1≤bs.length∧
   D3 T k13 2 [.int .i64 4,a0p 0 4294967295]∧D3 T k14 2 [.int .i64 8,a8Y (IntKind.u8.wrap a)]∧O4 S [k4,k7,k10,k13,k14] t (acc.map Y1) 2 T∧acc.length+n=N∧A5 bs (IntKind.u8.wrap a) n s' acc=A5 bs (IntKind.u8.wrap a) N (w9 bs fIx s).2 []) ?_ (n:=N)
  ⟨rfl,rfl,rfl,rfl,rfl,rfl,Nat.le_refl _,_,[], .nilSlc,h2,hs2,h13,h14,O4.nil,by simp,rfl⟩
 rintro n _ _ _ _ _ _ T ⟨rfl,rfl,rfl,rfl,rfl,rfl,hnN,s',acc,t,hd,hs',g13,g14,hg,hacc,hrd⟩
 unfold a3S
 have ld2:d9 T (.ptr k10 2)=some (.int .i64 s'.2):=hd.h10.ld 2
 have fin:(n=0∨s'.2≠0)→(b4 (l9 T 2 (.ptr k13 0)) fun v107=>p8 Try.prog E w0 A0 [.ptr k10 0,v107] T fun v108 S109=>b4 (p9 2 (.ptr k7 0)) fun v110=>j1 S109 1 v110 v108 fun v111 S112=>Q6 E w0 (b9 E Q) (.ptr k4 0) (.ptr k7 0) (.ptr k10 0) S112):=fun hend=>by
  have hrd':A5 bs (IntKind.u8.wrap a) N (w9 bs fIx s).2 []=(acc,s'):=by
   rw[←hrd]
   rcases hend with rfl|h
   ·rfl
   ·exact b0C h
  rw[hrd']at hdec
  rw[g13.all (n:=2) (by decide) rfl,oD]
  refine(a5G hd hb hl60 hs' (row:=[.int .i64 4,a0p 0 4294967295]) (f:=E1) ⟨_,rfl,b4R.bet _ _⟩ (by decide) (by decide)).use ?_
  rintro v T2 ⟨rfl,hd2,ke2⟩
  rw[ofP,oD]
  refine hd2.h7.st (clI _ _) ⟨rfl,by decide,by simp[E3]⟩ fun a7=> ?_
  have hd3:=hd2.set7 (c:=E3 op a (w9 bs E1 s').1 t) (a:=a7)
  have hg3:O4 S [k4,k7,k10,k13,k14] t (acc.map Y1) 2 (T2.set k7 ⟨4,[E3 op a (w9 bs E1 s').1 t],a7⟩):=(hg.of fun k o hk e=>by rw[ke2 k (fun e=>hk (by simp[e]))];exact e).set (.inl (by simp))
  refine c4o hd3.h4 hd3.h7 hd3.h10 rfl hg.cells fun S'' hS''=> ?_
  have hg4:O4 S [k4,k7,k10,k13,k14] t (acc.map Y1) 2 S'':=hg3.of fun k o hk e=>by rw[hS'' k (fun e=>hk (by simp[e]))];exact e
  have hle:S.le S'':=fun j o e=>by rw[hS'' j (fun e'=>by rw[e',hd.n4]at e;cases e)];exact hd3.le _ _ e
  obtain⟨S3,l3,g3⟩:=hg4.grw hle
  refine b9.less l3 ?_
  have:=hQ t S3 (by rw[hdec];exact g3)
  rw[hdec]at this
  exact this
 simp only[a8g,oD,ndP,ofP,Nat.zero_add,ld2,a2Z]
 by_cases h0:n=0
 ·subst h0
  simp only[Int.natCast_zero,gt_iff_lt,Int.lt_irrefl,decide_false,wdB,vdF,oD,pdB,Bool.false_eq_true,if_false,cdF,show((false==true)=false) from rfl]
  exact fin (.inl rfl)
 have hpos:decide ((n:Int)>0)=true:=decide_eq_true (by omega)
 simp only[hpos,wdB,vdT,oD,pdB,if_true,show((true==true)=true) from rfl,ndP,ofP,Nat.zero_add,ld2,a2Z]
 rw[cdB]
 refine⟨fun h0'=> ?_,fun h0'=> ?_⟩
 ·have hs0:s'.2=0:=by simpa using h0'
  rw[g14.all (n:=2) (by decide) rfl,oD]
  refine(a5G hd hb hl60 hs' (row:=[.int .i64 8,a8Y (IntKind.u8.wrap a)]) (f:=vF (IntKind.u8.wrap a)) ⟨_,rfl,b4R.fit _⟩ (by show 1≤8;decide) (by show 8≤8;decide)).use ?_
  rintro v T2 ⟨rfl,hd2,ke2⟩
  have hs2':=a2z (f:=vF (IntKind.u8.wrap a)) hs'
  have f13:=g13.of (ke2 _ e13)
  have f14:=g14.of (ke2 _ e14)
  have ld3:d9 T2 (.ptr k7 3)=some t:=hd2.h7.ld 3
  rw[ld3,oD]
  rw[f13.all (n:=2) (by decide) rfl,oD]
  refine(a5G hd2 hb hl60 hs2' (row:=[.int .i64 4,a0p 0 4294967295]) (f:=E1) ⟨_,rfl,b4R.bet _ _⟩ (by decide) (by decide)).use ?_
  rintro v T3 ⟨rfl,hd3,ke3⟩
  have k7e:T3 k7=T2 k7:=ke3 _ hd.d710
  refine⟨by rw[fwP,k7e], ?_⟩
  have hfa:B3 (l8 [D.int .i64 0, .int .i64 0] [(0,1, .int .i64 (w9 bs (vF (IntKind.u8.wrap a)) s').1),(1,1, .int .i64 (w9 bs E1 (w9 bs (vF (IntKind.u8.wrap a)) s').2).1)])=some (.agg (Y1 ((w9 bs (vF (IntKind.u8.wrap a)) s').1,(w9 bs E1 (w9 bs (vF (IntKind.u8.wrap a)) s').2).1))):=rfl
  rw[hfa,oD]
  refine E8 (rows:=[Y1 _]) rfl ⟨by rw[fwP,k7e], ?_⟩
  have hg2:O4 S [k4,k7,k10,k13,k14] t (acc.map Y1) 2 T2:=hg.of fun k o hk e=>by rw[ke2 k (fun e=>hk (by simp[e]))];exact e
  have hg3:O4 S [k4,k7,k10,k13,k14] t (acc.map Y1) 2 T3:=hg2.of fun k o hk e=>by rw[ke3 k (fun e=>hk (by simp[e]))];exact e
  have q13:=f13.of (ke3 _ e13)
  have q14:=f14.of (ke3 _ e14)
  refine hg3.push hd3.le (fun j hj=> ?_) (news:=[Y1 ((w9 bs (vF (IntKind.u8.wrap a)) s').1,(w9 bs E1 (w9 bs (vF (IntKind.u8.wrap a)) s').2).1)]) (by simp[rowsS,C1]) (by simp) (by simp;omega) fun t' T4 hle4 he4 hg4=> ?_
  ·simp only[List.mem_cons,List.not_mem_nil,or_false]at hj
   rcases hj with rfl|rfl|rfl|rfl|rfl
   ·exact hd3.h4.there
   ·exact hd3.h7.there
   ·exact hd3.h10.there
   ·exact q13.there
   ·exact q14.there
  have hd4:V0 S k4 k7 k10 (E3 op a 0 t) bs _ T4:=hd3.of hle4 fun j hj=>he4 j (by simp only[List.mem_cons,List.not_mem_nil,or_false]at hj ⊢;rcases hj with rfl|rfl|rfl<;>simp)
  refine hd4.h7.st (hg4.cells) ⟨rfl,by decide,by simp[E3]⟩ fun a7=> ?_
  rw[a0M,oD,i6 (by omega) (by omega)]
  obtain⟨m,rfl⟩:∃m,n=m+1:=⟨n - 1,by omega⟩
  rw[A5,if_neg (by simpa using hs0)]at hrd
  refine⟨m,by omega,by trivial,by trivial,by trivial,by trivial,by trivial,by congr 1;omega,by omega,_,acc++[_],t',hd4.set7 (c:=E3 op a 0 t'),a2z hs2', ?_, ?_, ?_,by simp;omega,hrd⟩
  ·exact(q13.of (he4 _ (by simp))).set_ne (Ne.symm d7.1)
  ·exact(q14.of (he4 _ (by simp))).set_ne (Ne.symm d7.2)
  ·rw[List.map_append]
   exact hg4.set (.inl (by simp))
 ·exact fin (.inr (by simpa using h0'))
end
end
section
section
variable{E:g8}{w0:j0}
theorem d0Z(T:b5){k l:Nat}(h:k≠l)(z z' A B:A2):(((T.set k z).set l z').set k A).set l B=(T.set k A).set l B:=by
 rw[b5.set_in _ h,b5.set_set]
theorem d1p(T:b5){k l:Nat}(h:k≠l)(z z' A B:A2):(((T.set k z).set l z').set l B).set k A=(T.set k A).set l B:=by
 rw[b5.set_set,b5.set_in _ h]
theorem c3U{bs:List Int}{j:Nat}{a b:Int}{s:Nat×Int}{f:Fld}{l:List Fld}(h:l[j]? =some f):b6R bs j a b s (l.drop j)=b6R bs (j+1) (if j=0 then(w9 bs f s).1 else a) (if j=0 then b else(w9 bs f s).1) (w9 bs f s).2 (l.drop (j+1)):=by
 obtain⟨hj,rfl⟩:=List.getElem?_eq_some_iff.1 h
 rw[List.drop_eq_getElem_cons hj,b6R]
theorem b7v{bs:List Int}(hb:∀b∈bs,J0 b)(hl:bs.length<2^30){n:Int}{S:b5}:p8 Try.prog E w0 a2U [bD bs, .int .i64 n] S fun v S'=>∃t,v=c0O (s4 bs n) t∧Grw S t ((s4 bs n).1.2.2.2.map Y1) 2 S':=by
 refine b4q ?_
 unfold b1q
 intro k4 a4 n4
 have h4:D3 (S.set k4 ⟨4,[zC],a4⟩) k4 4 zC:=D3.new
 change b4 _ _
 have le4:S.le (S.set k4 ⟨4,[zC],a4⟩):=b5.le_new n4
 by_cases hn:n<0∨n≥bs.length
 ·have e:s4 bs n=(b8p,(0,2)):=by unfold s4;rw[if_pos hn]
  have fin:(b4 (B3 (l8 [(D.int .u8 0),(.int .i64 0),(.int .i64 0), .nilSlc] [])) fun v8=>j1 (S.set k4 ⟨4,[zC],a4⟩) 4 (.ptr k4 0) v8 fun v9 S10=>b4 (l9 S10 4 (.ptr k4 0)) fun v11=>b9 E (fun v S'=>∃t,v=c0O (s4 bs n) t∧Grw S t ((s4 bs n).1.2.2.2.map Y1) 2 S') (.tup [v11,(.int .i64 0),(.int .i64 2)]) S10):=by
   rw[fiN,agS,oD]
   refine h4.st (clA _) ⟨rfl,by decide,by decide⟩ fun a=> ?_
   rw[(D3.new).all (n:=4) (by decide) rfl,oD,b5.set_set]
   refine b9.drop n4 (b9.here ⟨.nilSlc, ?_, ?_⟩)
   ·rw[e];rfl
   ·rw[e];exact Grw.nil _ _
  rw[M7,oD]
  by_cases h1:n<0
  ·rw[decide_eq_true h1]
   simp only[wdB,vdF,oD,pdB,if_true,cdT,show((true==false)=false) from rfl]
   exact fin
  ·have h2:decide (n≥(bs.length:Int))=true:=decide_eq_true (hn.resolve_left h1)
   rw[decide_eq_false h1]
   simp only[wdB,vdT,oD,pdB,Bool.false_eq_true,if_false,a2u,c1u,h2,cdT,show((false==false)=true) from rfl]
   exact fin
 have hn0:¬n<0:=fun h=>hn (.inl h)
 have hn1:¬n≥(bs.length:Int):=fun h=>hn (.inr h)
 obtain⟨p,rfl⟩:∃p:Nat,n=(p:Int):=⟨n.toNat,by omega⟩
 have hp:p<bs.length:=by omega
 have edT:s4 bs (p:Int)=b1Z bs p:=by unfold s4;rw[if_neg hn];rfl
 obtain⟨op,hop⟩:∃op,op=bs[p]:=⟨_,rfl⟩
 have hj:bs[p]? =some op:=by rw[List.getElem?_eq_getElem hp,hop]
 have hbop:J0 op:=hb op (by rw[hop];exact List.getElem_mem _)
 have egd:bs.getD p 0=op:=by rw[List.getD_eq_getElem?_getD,hj];rfl
 rw[M7,oD,decide_eq_false hn0]
 simp only[wdB,vdT,oD,pdB,Bool.false_eq_true,if_false,a2u,c1u,decide_eq_false hn1,cdF,show((false==false)=true) from rfl]
 rw[b8B hj,oD,lsE,List.getElem?_cons_zero,oD]
 have hag:B3 (l8 [(D.int .u8 0),(.int .i64 0),(.int .i64 0), .nilSlc] [(0,1, .int .u8 op)])=some (.agg (E3 op 0 0 .nilSlc)):=rfl
 rw[hag,oD]
 intro k7 a7 n7
 have d47:k4≠k7:=h4.none n7
 have n7':S k7=none:=b5.none_of le4 n7
 have h7z:D3 ((S.set k4 ⟨4,[zC],a4⟩).set k7 ⟨4,[zC],a7⟩) k7 4 zC:=D3.new
 refine h7z.st (ds:=E3 op 0 0 .nilSlc) (clA _) ⟨rfl,by decide,by decide⟩ fun a7=> ?_
 rw[b5.set_set,show j4 zC 0 (E3 op 0 0 .nilSlc)=E3 op 0 0 .nilSlc from rfl]
 have h7:D3 ((S.set k4 ⟨4,[zC],a4⟩).set k7 ⟨4,[E3 op 0 0 .nilSlc],a7⟩) k7 4 (E3 op 0 0 .nilSlc):=D3.new
 have h4':=h4.set (o:=⟨4,[E3 op 0 0 .nilSlc],a7⟩) n7
 have le7:S.le ((S.set k4 ⟨4,[zC],a4⟩).set k7 ⟨4,[E3 op 0 0 .nilSlc],a7⟩):=b5.le_set le4 n7'
 generalize (S.set k4 ⟨4,[zC],a4⟩).set k7 ⟨4,[E3 op 0 0 .nilSlc],a7⟩=T7 at*
 rw[ofP,oD,h7.ld,show(E3 op 0 0 .nilSlc)[0+0]? =some (.int .u8 op) from rfl,oD]
 refine b7U.use ?_
 simp only[exD,List.getElem?_cons_zero,List.getElem?_cons_succ,oD,unN]
 cases hlay:lay op with
 |none=>
  rw[show(!(none:Option (List Fld)).isSome)=true from rfl,cdT,fiN,agS,oD]
  have e:s4 bs (p:Int)=(b8p,(0,120)):=by rw[edT];unfold b1Z;rw[egd,if_pos hlay]
  refine h4'.st (clA _) ⟨rfl,by decide,by decide⟩ fun a=> ?_
  rw[(D3.new).all (n:=4) (by decide) rfl,oD]
  refine b9.less (b5.le_set le7 n4) (b9.here ⟨.nilSlc, ?_, ?_⟩)
  ·rw[e];rfl
  ·rw[e];exact Grw.nil _ _
 |some l=>
 rw[show(!(some l).isSome)=false from rfl,cdF,C4,oD,i6 (by omega) (by omega)]
 have hag2:B3 (l8 [.nilSlc,(D.int .i64 0),(.int .i64 0)] [(0,1,bD bs),(1,1, .int .i64 ((p:Int)+1))])=some (.agg (rdC bs (p+1,0))):=rfl
 rw[hag2,oD,clA,oD]
 intro k10 a10 n10
 have hst:V0 S k4 k7 k10 (E3 op 0 0 .nilSlc) bs (p+1,0) (T7.set k10 ⟨3,[rdC bs (p+1,0)],a10⟩):=
  ⟨b5.le_set le7 (b5.none_of le7 n10),n4,n7',b5.none_of le7 n10,d47,h4'.set n10,h7.set n10,D3.new⟩
 have hl2:l.length≤2:=by have:=b0o (op:=op);rw[hlay]at this;exact this
 have hgood:∀f∈l,a4y f:=by have:=b3w op;rw[hlay]at this;exact this
 have hgd:(lay op).getD []=l:=by rw[hlay];rfl
 rw[lnL,oD,b9A,hgd]
 have hl60:bs.length<2^60:=by omega
 have edS:b1Z bs p=if(a5l bs p).2.2≠0 then(b8p,(0,(a5l bs p).2.2)) else a5l bs p:=by
  unfold b1Z;rw[egd,if_neg (by rw[hlay];simp)]
 refine b1k (I:=fun n x4 x7 x10 x45 x46 x47 T=>x4= .ptr k4 0∧x7= .ptr k7 0∧x10= .ptr k10 0∧x45= .lst (a7R op) 2∧x46= .int .i64 (l.length:Int)∧∃(j:Nat) (a b:Int) (s:Nat×Int),x47= .int .i64 (j:Int)∧j+n=l.length∧
   V0 S k4 k7 k10 (E3 op a b .nilSlc) bs s T∧s.1≤bs.length∧b6R bs j a b s (l.drop j)=I5 bs l (p+1,0)) ?_ (n:=l.length)
  ⟨rfl,rfl,rfl,rfl,rfl,0,0,0,(p+1,0),rfl,by omega,hst,by show p+1≤bs.length;omega,c7e hl2⟩
 rintro n _ _ _ _ _ _ T ⟨rfl,rfl,rfl,rfl,rfl,j,a,b,s,rfl,hjn,hd,hs,hfold⟩
 unfold a3D
 rw[M7,oD,V7]
 refine⟨fun hlt=> ?_,fun hge=> ?_⟩
 ·have hlt:j<l.length:=by omega
  obtain⟨f,hf⟩:∃f,f=l[j]:=⟨_,rfl⟩
  have hjf:l[j]? =some f:=by rw[List.getElem?_eq_getElem hlt,hf]
  obtain⟨row,hrow,hfd⟩:=c7f (op:=op) (i:=j) (f:=f) (by rw[hgd];exact hjf)
  have hg:=hgood f (by rw[hf];exact List.getElem_mem _)
  have hg1:=hg.1
  have hg8:=a3A hg
  have hrl:=hfd.len
  rw[b9u hrow,oD,laE,if_pos ⟨by decide,by omega⟩,oD,List.drop_zero,List.take_of_length_le (by omega)]
  intro k ak nk
  refine(D3.new (sz:=2) (c:=[D.int .i64 0, .nilFn])).st (ds:=row) (clA _) ⟨hrl,by decide,by simp⟩ fun ak=> ?_
  rw[b5.set_set,c8k hfd]
  have hd2:=hd.new (o:=⟨2,[row],ak⟩) nk
  have hc:D3 (T.set k ⟨2,[row],ak⟩) k 2 row:=D3.new
  change b4 _ _
  rw[c3U hjf]at hfold
  have hI:=a2z (f:=f) hs
  rw[a2Z,oD,cdB]
  refine⟨fun h0=> ?_,fun h0=> ?_⟩
  ·have h0:j=0:=by have:(j:Int)=0:=by simpa using h0
                   omega
   rw[if_pos h0,if_pos h0]at hfold
   rw[hc.all (n:=2) (by decide) hrl.symm,oD]
   refine(a5G hd2 hb hl60 hs hfd hg1 hg8).use ?_
   rintro v T2 ⟨rfl,hd3,_⟩
   rw[ofP,oD]
   refine hd3.h7.st (clI _ _) ⟨rfl,by decide,by simp[E3]⟩ fun a7=> ?_
   rw[C4,oD,i6 (by omega) (by omega)]
   exact⟨n - 1,by omega,rfl,rfl,rfl,rfl,rfl,j+1,_,b,_,rfl,by omega,hd3.set7 (c:=E3 op (w9 bs f s).1 b .nilSlc),hI,hfold⟩
  ·have h0:¬j=0:=by have:¬(j:Int)=0:=by simpa using h0
                    omega
   rw[if_neg h0,if_neg h0]at hfold
   rw[hc.all (n:=2) (by decide) hrl.symm,oD]
   refine(a5G hd2 hb hl60 hs hfd hg1 hg8).use ?_
   rintro v T2 ⟨rfl,hd3,_⟩
   rw[ofP,oD]
   refine hd3.h7.st (clI _ _) ⟨rfl,by decide,by simp[E3]⟩ fun a7=> ?_
   rw[C4,oD,i6 (by omega) (by omega)]
   exact⟨n - 1,by omega,rfl,rfl,rfl,rfl,rfl,j+1,a,_,_,rfl,by omega,hd3.set7 (c:=E3 op a (w9 bs f s).1 .nilSlc),hI,hfold⟩
 ·have hj':j=l.length:=by omega
  subst hj'
  rw[List.drop_length,b6R]at hfold
  rw[ofP,oD,hd.h7.ld,show(E3 op a b .nilSlc)[0+0]? =some (.int .u8 op) from rfl,oD,a2Z,oD,cdB]
  refine⟨fun h49=> ?_,fun h49=> ?_⟩
  ·have h49:op=49:=by simpa using h49
   have hb0:b=0:=by
    have hl1:=c4w hlay h49
    rw[hl1]at hfold
    exact congrArg (fun q:Int×Int×(Nat×Int)=>q.2.1) hfold
   subst hb0
   have edX:a5l bs p=a4A bs 49 a s:=by unfold a5l;rw[egd,if_pos h49,hgd, ←hfold]
   have d7:∀ {k:Nat},T k=none→k7≠k:=fun hk=>hd.h7.none hk
   have hfin:∀ {k l:Nat} {T':b5},T k=none→T l=none→V0 S k4 k7 k10 (E3 op a 0 .nilSlc) bs s T'→D3 T' k 2 [.int .i64 4,a0p 0 4294967295]→D3 T' l 2 [.int .i64 8,a8Y (IntKind.u8.wrap a)]→
     o8 E w0 (b9 E (fun v S'=>∃t,v=c0O (s4 bs (p:Int)) t∧Grw S t ((s4 bs (p:Int)).1.2.2.2.map Y1) 2 S')) (.ptr k4 0) (.ptr k7 0) (.ptr k10 0) (.ptr k 0) (.ptr l 0) T':=fun{k l T'} nk nl hd' c1 c2=>by
    refine c9K hb hl hd' hs c1 c2 (b5.none_of hd.le nk) (b5.none_of hd.le nl) ⟨d7 nk,d7 nl⟩ fun t S' hg=> ?_
    rw[h49]
    rw[h49]at hg
    by_cases he:(a4A bs 49 a s).2.2=0
    ·rw[if_pos he]
     have e:s4 bs (p:Int)=a4A bs 49 a s:=by rw[edT,edS,edX,if_neg (by simp[he])]
     refine b9.here ⟨t, ?_,by rw[e];exact hg⟩
     rw[e]
     unfold c0O
     rw[he]
     rfl
    ·rw[if_neg he]
     have e:s4 bs (p:Int)=(b8p,(0,(a4A bs 49 a s).2.2)):=by rw[edT,edS,edX,if_pos he]
     refine b9.less hg.le (b9.here ⟨.nilSlc, ?_,by rw[e];exact Grw.nil _ _⟩)
     rw[e];rfl
   have ld1:d9 T (.ptr k7 (0+1))=some (.int .i64 a):=hd.h7.ld 1
   have hA:∀ {k l:Nat} {ak al:List AV},T k=none→(T.set k ⟨2,[[.int .i64 0, .nilFn]],ak⟩) l=none→∀ak al,o8 E w0 (b9 E (fun v S'=>∃t,v=c0O (s4 bs (p:Int)) t∧Grw S t ((s4 bs (p:Int)).1.2.2.2.map Y1) 2 S')) (.ptr k4 0) (.ptr k7 0) (.ptr k10 0) (.ptr k 0) (.ptr l 0)
     ((T.set k ⟨2,[[.int .i64 4,a0p 0 4294967295]],ak⟩).set l ⟨2,[[.int .i64 8,a8Y (IntKind.u8.wrap a)]],al⟩):=fun{k l _ _} nk nl ak al=>by
    obtain⟨ne,nl'⟩:=b5.fresh nl
    have nl2:(T.set k ⟨2,[[.int .i64 4,a0p 0 4294967295]],ak⟩) l=none:=by rw[b5.set_ne _ _ _ ne];exact nl'
    exact hfin nk nl' ((hd.new nk).new nl2) ((D3.new).set nl2) D3.new
   have hB:∀ {k l:Nat} {ak al:List AV},T k=none→(T.set k ⟨2,[[.int .i64 0, .nilFn]],ak⟩) l=none→∀ak al,o8 E w0 (b9 E (fun v S'=>∃t,v=c0O (s4 bs (p:Int)) t∧Grw S t ((s4 bs (p:Int)).1.2.2.2.map Y1) 2 S')) (.ptr k4 0) (.ptr k7 0) (.ptr k10 0) (.ptr l 0) (.ptr k 0)
     ((T.set k ⟨2,[[.int .i64 8,a8Y (IntKind.u8.wrap a)]],ak⟩).set l ⟨2,[[.int .i64 4,a0p 0 4294967295]],al⟩):=fun{k l _ _} nk nl ak al=>by
    obtain⟨ne,nl'⟩:=b5.fresh nl
    have nl2:(T.set k ⟨2,[[.int .i64 8,a8Y (IntKind.u8.wrap a)]],ak⟩) l=none:=by rw[b5.set_ne _ _ _ ne];exact nl'
    exact hfin nl' nk ((hd.new nk).new nl2) D3.new ((D3.new).set nl2)
   have l0:∀ {k:Nat} {o:A2},T k=none→(T.set k o) k7=T k7:=fun nk=>b5.set_ne _ _ _ (d7 nk)
   simp only[ofP,oD,ld1,cvI]
   repeat' (refine And.intro ?_ ?_)
   all_goals (repeat (first|refine E0.use ?_|refine a0O.use ?_|refine⟨fwR _ _, ?_⟩|rw[a3Q (b2d _ _),oD]|rw[a3Q (b8C _),oD]))
   all_goals (intro k ak nk)
   all_goals (have f1:=l0 (o:=⟨2,[[.int .i64 0, .nilFn]],ak⟩) nk)
   all_goals (repeat (first|refine E0.use ?_|refine a0O.use ?_|rw[a3Q (b2d _ _),oD]|rw[a3Q (b8C _),oD]|refine⟨f1, ?_⟩))
   all_goals (intro l' al nl)
   all_goals (have f2:∀ {o:A2},((T.set k ⟨2,[[.int .i64 0, .nilFn]],ak⟩).set l' o) k7=T k7:=fun{o}=>by rw[b5.set_ne _ _ _ (d7 (b5.fresh nl).2)];exact f1)
   all_goals (have ne:k≠l':=Ne.symm (b5.fresh nl).1)
   all_goals (repeat (first|refine E0.use ?_|refine a0O.use ?_|rw[a3Q (b2d _ _),oD]|rw[a3Q (b8C _),oD]|refine⟨f2, ?_⟩))
   all_goals (first
    |refine stP (k:=k) (cs:=[.int .i64 0, .nilFn]) (b5.set_ne _ _ _ ne |>.trans (b5.set_same _ _ _)) (clA _) ⟨rfl,by decide,by simp⟩ fun a1=> ?_
    |refine stP (k:=l') (cs:=[.int .i64 0, .nilFn]) (b5.set_same _ _ _) (clA _) ⟨rfl,by decide,by simp⟩ fun a1=> ?_)
   all_goals (first
    |refine stP (k:=l') (cs:=[.int .i64 0, .nilFn]) ((b5.set_ne _ _ _ (Ne.symm ne)).trans (b5.set_same _ _ _)) (clA _) ⟨rfl,by decide,by simp⟩ fun a2=> ?_
    |refine stP (k:=k) (cs:=[.int .i64 0, .nilFn]) (((b5.set_ne _ _ _ ne).trans (b5.set_ne _ _ _ ne)).trans (b5.set_same _ _ _)) (clA _) ⟨rfl,by decide,by simp⟩ fun a2=> ?_)
   all_goals (first|rw[d0Z _ ne]|rw[d1p _ ne])
   all_goals (first|exact hA (al:=al) nk nl _ _|exact hB (al:=al) nk nl _ _)
  ·have h49:¬op=49:=by simpa using h49
   have edX:a5l bs p=((op,a,b,[]),s):=by unfold a5l;rw[egd,if_neg h49,hgd, ←hfold]
   refine c4o hd.h4 hd.h7 hd.h10 rfl rfl fun S'' hS''=> ?_
   have hle:S.le S'':=fun i o e=>by rw[hS'' i (fun e'=>by rw[e',hd.n4]at e;cases e)];exact hd.le _ _ e
   refine b9.less hle (b9.here ⟨.nilSlc, ?_, ?_⟩)
   ·by_cases he:s.2=0
    ·rw[if_pos he,edT,edS,edX,if_neg (by simp[he])]
     unfold c0O;rw[he]
    ·rw[if_neg he,edT,edS,edX,if_pos (by simpa using he)];rfl
   ·rw[edT,edS,edX]
    by_cases he:s.2=0
    ·rw[if_neg (by simp[he])];exact Grw.nil _ _
    ·rw[if_pos (by simpa using he)];exact Grw.nil _ _
end
end
end Go.Proofs.Ytdkidgkiplcggaa.d
end
section
namespace Go.Am
def ob:D→List Nat
 | .raw k _ _ _ _ _=>[k]
 |_=>[]
section
variable{S T:b5}{av:List Nat}{t u:D}{rows rows':List (List D)}{sz sz':Nat}
theorem O4.ob_some(h:O4 S av t rows sz T):∀j∈ob t,T j≠Option.none:=by
 rcases h with ⟨rfl,_⟩|⟨k,acs,_,_,rfl,h3⟩
 ·simp[ob]
 ·simp[ob,h3]
theorem O4.ob_av(h:O4 S av t rows sz T):∀j∈ob t,j ∉ av:=by
 rcases h with ⟨rfl,_⟩|⟨k,acs,_,h1,rfl,_⟩
 ·simp[ob]
 ·simpa [ob]using h1
theorem O4.apart(h:O4 S av t rows sz T){T':b5}{av':List Nat}(e:∀j∈ob t,T' j=T j)(ha:∀j∈ob t,j ∉ av'):O4 S av' t rows sz T':=by
 rcases h with h|⟨k,acs,h0,h1,rfl,h3⟩
 ·exact .inl h
 ·exact .inr ⟨k,acs,h0,ha k (by simp[ob]),rfl,by rw[e k (by simp[ob])];exact h3⟩
theorem b9.grA{E:g8}{Q:D→b5→Prop}{pre post:List D}(h:O4 S av t rows sz T)(hle:S.le T)(hQ:∀T',S.le T'→(∀j,j ∉ ob t→T' j=T j)→b9 E Q (.tup (pre++ .lst rows sz::post)) T'):b9 E Q (.tup (pre++t::post)) T:=by
 rcases h with ⟨rfl,rfl⟩|⟨k,acs,h0,h1,rfl,h3⟩
 ·exact b9.nilT (hQ T hle fun _ _=>rfl)
 ·refine b9.freezeT h3 rfl (by simp) (Nat.le_refl _) ?_
  simpa using hQ (T.erase k) (b5.le_erase hle h0) fun j hj=>b5.erase_ne _ _ (by simpa [ob]using hj)
def GrP(S:b5)(av:List Nat)(t:D)(rows:List (List D))(sz:Nat)(u:D)(rows':List (List D))(sz':Nat)(T:b5):Prop:=
 S.le T∧(∀j∈av,T j≠Option.none)∧O4 S (ob u++av) t rows sz T∧O4 S (ob t++av) u rows' sz' T
theorem GrP.nil:GrP S [] .nilSlc [] sz .nilSlc [] sz' S:=⟨b5.le_refl _,by simp,O4.nil,O4.nil⟩
theorem GrP.swap(h:GrP S av t rows sz u rows' sz' T):GrP S av u rows' sz' t rows sz T:=⟨h.1,h.2.1,h.2.2.2,h.2.2.1⟩
theorem GrP.push(h:GrP S av t rows sz u rows' sz' T){bytes:Nat}{v:D}{news:List (List D)}(hv:rowsS T sz v=some news)(hn:news≠[])(hb:0<bytes∧(2*(rows.length+news.length)+768)*bytes≤2^47){K:D→b5→Prop}
  (hK:∀t' T',(∀j∈av,T' j=T j)→GrP S av t' (rows++news) sz u rows' sz' T'→K t' T'):u4 T sz bytes t v K:=by
 obtain⟨h1,h2,h3,h4⟩:=h
 refine h3.push h1 (fun j hj=> ?_) hv hn hb fun t' T' hle he hg=>hK t' T' (fun j hj=>he j (List.mem_append_right _ hj)) ⟨hle,fun j hj=> ?_,hg, ?_⟩
 ·rcases List.mem_append.1 hj with hj|hj
  ·exact h4.ob_some j hj
  ·exact h2 j hj
 ·rw[he j (List.mem_append_right _ hj)];exact h2 j hj
 ·refine h4.apart (fun j hj=>he j (List.mem_append_left _ hj)) fun j hj hm=> ?_
  rcases List.mem_append.1 hm with hm|hm
  ·exact hg.ob_av j hm (List.mem_append_left _ hj)
  ·exact h4.ob_av j hj (List.mem_append_right _ hm)
theorem GrP.set(h:GrP S av t rows sz u rows' sz' T){l:Nat}{o:A2}(hl:T l=Option.none):GrP S av t rows sz u rows' sz' (T.set l o):=by
 obtain⟨h1,h2,h3,h4⟩:=h
 exact⟨b5.le_set h1 (b5.none_of h1 hl),fun j hj=>(by rw[b5.set_ne _ _ _ (fun e=>h2 j hj (by rw[e];exact hl))];exact h2 j hj),h3.set (.inr hl),h4.set (.inr hl)⟩
theorem GrP.more(h:GrP S av t rows sz u rows' sz' T){l:Nat}{o:A2}(hl:T l=Option.none):GrP S (l::av) t rows sz u rows' sz' (T.set l o):=by
 have hs:=h.set (o:=o) hl
 have n1:∀j∈ob t,j≠l:=fun j hj e=>h.2.2.1.ob_some j hj (e▸hl)
 have n2:∀j∈ob u,j≠l:=fun j hj e=>h.2.2.2.ob_some j hj (e▸hl)
 refine⟨hs.1,fun j hj=> ?_,hs.2.2.1.apart (fun _ _=>rfl) fun j hj hm=> ?_,hs.2.2.2.apart (fun _ _=>rfl) fun j hj hm=> ?_⟩
 ·rcases List.mem_cons.1 hj with rfl|hj
  ·rw[b5.set_same];simp
  ·exact hs.2.1 j hj
 ·rcases List.mem_append.1 hm with hm|hm
  ·exact hs.2.2.1.ob_av j hj (List.mem_append_left _ hm)
  ·rcases List.mem_cons.1 hm with rfl|hm
   ·exact n1 _ hj rfl
   ·exact hs.2.2.1.ob_av j hj (List.mem_append_right _ hm)
 ·rcases List.mem_append.1 hm with hm|hm
  ·exact hs.2.2.2.ob_av j hj (List.mem_append_left _ hm)
  ·rcases List.mem_cons.1 hm with rfl|hm
   ·exact n2 _ hj rfl
   ·exact hs.2.2.2.ob_av j hj (List.mem_append_right _ hm)
theorem GrP.fin{E:g8}{Q:D→b5→Prop}{post:List D}(h:GrP S av t rows sz u rows' sz' T)(hQ:b9 E Q (.tup (.lst rows sz:: .lst rows' sz'::post)) S):b9 E Q (.tup (t::u::post)) T:=by
 obtain⟨h1,h2,h3,h4⟩:=h
 refine b9.grA (pre:=[]) h3 h1 fun T' hle he=> ?_
 have h4':O4 S (ob t++av) u rows' sz' T':=h4.apart (fun j hj=>he j fun hm=>h3.ob_av j hm (List.mem_append_left _ hj)) fun j hj hm=>h4.ob_av j hj hm
 exact b9.grA (pre:=[.lst rows sz]) h4' hle fun T2 hle2 _=>b9.less hle2 hQ
end
end Go.Am
end
section
open Go.Proofs Go Go.Am Go.Op
namespace Go.Proofs.Ytdkidgkiplcggaa.d
section
section
variable{E:g8}{w0:j0}
structure Mo.Small (m:Mo) (N:Nat):Prop where
 types:m.types.length≤N
 texts:m.texts.length≤N
 funcs:m.funcs.length≤N
 fields:∀t∈m.types,t.fields.length≤N
 params:∀r∈m.funcs,r.params.length≤N∧r.results.length≤N∧r.code.length≤N
end
end
section
@[simp] theorem c9E(S:b5)(l:List (Tx×Int)):rowsS S 2 (c1E l)=some (l.map c7U):=by simp[c1E,rowsS,C1]
@[simp] theorem d0d(S:b5)(l:List Tx):rowsS S 1 (c8u l)=some (J5 (l.map D.str)):=by simp[c8u,rowsS,C1]
theorem Grw.cells{S0 S:b5}{t:D}{rows:List (List D)}{sz:Nat}(g:Grw S0 t rows sz S):s5 t=some [t]:=by rcases g with ⟨rfl,_⟩|⟨_,_,_,rfl,_⟩<;>rfl
structure Mo.Fits (m:Mo):Prop where
 ok:m.Ok
 types:m.types.length<2^30
 texts:m.texts.length<2^30
 funcs:m.funcs.length<2^30
 fields:∀t∈m.types,t.fields.length<2^30
 params:∀r∈m.funcs,r.params.length<2^30∧r.results.length<2^30∧r.code.length<2^30
section
variable{E:g8}{w0:j0}
end
end
section
def U2(P:Program)(E:g8)(w0:j0)(f:FuncId)(ds:List D)(d:D):Prop:=∀S,p8 P E w0 f ds S fun d' S'=>d'=d∧S'=S
theorem U2.use{P:Program}{E:g8}{w0:j0}{f:FuncId}{ds:List D}{d:D}(h:U2 P E w0 f ds d){S:b5}{K:D→b5→Prop}(hk:K d S):p8 P E w0 f ds S K:=(h S).use fun d' S' ⟨a,b⟩=>by subst a b;exact hk
section
variable{E:g8}{w0:j0}
end
end
section
def a0H(d:Dat):In:=⟨d.1,d.2.1,d.2.2.1,d.2.2.2⟩
theorem b7j(d:Dat):(a0H d).dat=d:=rfl
def H6(l:List In):D:= .lst (l.map N7) 4
def b0j(r:Dat×(Nat×Int)):D:= .tup [inD (a0H r.1), .int .i64 (r.2.1:Int), .int .i64 r.2.2]
def t8(l:List (Dat×Nat)):List In:=l.map fun x=>a0H x.1
def C5(l:List (Dat×Nat)):List Int:=l.map fun x=>(x.2:Int)
def c7u(r:Except Int (List (Dat×Nat))):D:=match r with
 | .ok l=> .tup [H6 (t8 l),iD (C5 l), .int .i64 0]
 | .error e=> .tup [H6 [],iD [], .int .i64 e]
abbrev a5v(bs:List Int):Except Int (List (Dat×Nat)):=a2r bs (bs.length+1) 0
theorem a2W{bs:List Int}{n p:Nat}(hp:p<bs.length):a2r bs (n+1) p=if(s4 bs p).2.2=0 then(match a2r bs n (s4 bs p).2.1 with| .ok l=> .ok (((s4 bs p).1,p)::l)| .error e=> .error e) else .error (s4 bs p).2.2:=by
 rw[a2r,if_neg (by omega)]
 all_goals rfl
theorem b8G{done:List (Dat×Nat)}{x:Dat×Nat}(r:Except Int (List (Dat×Nat))):c0W done (match r with| .ok l=> .ok (x::l)| .error e=> .error e)=c0W (done++[x]) r:=by
 cases r with
 |error e=>rfl
 |ok l=>simp[c0W]
theorem b5T{bs:List Int}(hb:∀b∈bs,J0 b){p:Nat}(h:(s4 bs (p:Int)).2.2=0):(a0H (s4 bs p).1).Ok∧p<(s4 bs p).2.1∧(s4 bs p).2.1≤bs.length:=by
 obtain⟨_,_,h3,_,hsg,hnx⟩:=c0S hb h (b7j _)
 rw[Int.toNat_natCast]at hnx hsg
 have:=c0Y (a0H (s4 bs p).1)
 have:=hsg.1
 exact⟨h3,by omega,by omega⟩
section
variable{E:g8}{w0:j0}
theorem c5H{k sz:Nat}{rows:List (List D)}{acs:List AV}:Am.frz k ⟨sz,rows,acs⟩ (.raw k 0 rows.length rows.length false sz)= .lst rows sz:=by
 rw[c4T (by omega) (Nat.le_refl _),List.drop_zero,List.take_length]
theorem b8c{bs:List Int}(hb:∀b∈bs,J0 b)(hl:bs.length<2^30){n:Int}:U2 Try.prog E w0 a2U [bD bs, .int .i64 n] (b0j (s4 bs n)):=fun S=>
 (b7v hb hl).fin fun v S' ⟨t,ev,g⟩=>by
  subst ev
  rcases g with ⟨rfl,e,rfl⟩|⟨k,acs,h0,rfl,rfl⟩
  ·refine b9.weak (d':=b0j (s4 bs n)) ?_ b9.pure
   refine Wk.tup ⟨Wk.agg ⟨Wk.refl _,Wk.refl _,Wk.refl _, ?_,trivial⟩,Wk.refl _,Wk.refl _,trivial⟩
   have:a5e (a0H (s4 bs n).1).arms= .lst [] 2:=by unfold a5e;rw[show(a0H (s4 bs n).1).arms=(s4 bs n).1.2.2.2 from rfl,e]
   rw[this]
   exact Wk.nil 2
  ·refine b9.frz h0 ?_
   have:Am.frz k ⟨2,(s4 bs n).1.2.2.2.map Y1,acs⟩ (c0O (s4 bs n) (.raw k 0 ((s4 bs n).1.2.2.2.map Y1).length ((s4 bs n).1.2.2.2.map Y1).length false 2))=b0j (s4 bs n):=by
    have e:∀(o:A2) (a b c d e:Int) (tt:D),Am.frz k o (.tup [.agg [.int .u8 a, .int .i64 b, .int .i64 c,tt], .int .i64 d, .int .i64 e])= .tup [.agg [.int .u8 a, .int .i64 b, .int .i64 c,Am.frz k o tt], .int .i64 d, .int .i64 e]:=by
     intros;simp only[Am.frz,Am.a0W]
    unfold c0O E3
    rw[e,c5H]
    rfl
   rw[this]
   exact b9.pure
def c8Y(S:b5)(r:Except Int (List (Dat×Nat)))(v:D)(T:b5):Prop:=match r with
 | .ok l=>∃t u,v= .tup [t,u, .int .i64 0]∧GrP S [] t ((t8 l).map N7) 4 u (iC (C5 l)) 1 T
 | .error e=>v= .tup [.nilSlc, .nilSlc, .int .i64 e]∧T=S
theorem c1W{bs:List Int}(hb:∀b∈bs,J0 b)(hl:bs.length<2^30){S:b5}:p8 Try.prog E w0 a8y [bD bs] S (c8Y S (a5v bs)):=by
 refine b9N ?_
 unfold b8z
 refine b5Q (I:=fun n x0 x5 x6 x7 T=>x0=bD bs∧∃(p:Nat) (done:List (Dat×Nat)),x7= .int .i64 (p:Int)∧p≤bs.length∧bs.length<p+n∧done.length≤p∧GrP S [] x5 ((t8 done).map N7) 4 x6 (iC (C5 done)) 1 T∧a5v bs=c0W done (a2r bs n p)) ?_ (n:=bs.length+1)
  ⟨rfl,0,[],rfl,by omega,by omega,by simp,GrP.nil,by unfold a5v;cases a2r bs (bs.length+1) 0<;>rfl⟩
 rintro n _ x5 x6 _ T ⟨rfl,p,done,rfl,hp,hpn,hdl,hg,hrun⟩
 unfold a7S
 rw[a2u,oD,M7,oD,V7]
 obtain⟨n,rfl⟩:∃m,n=m+1:=⟨n - 1,by omega⟩
 refine⟨fun hlt=> ?_,fun hge=> ?_⟩
 ·have hlt:p<bs.length:=by omega
  rw[a2W hlt]at hrun
  refine(b8c hb hl).use ?_
  unfold b0j
  simp only[exD,List.getElem?_cons_zero,List.getElem?_cons_succ,oD]
  intro k a nk
  refine(D3.new (sz:=4) (c:=[.int .u8 0, .int .i64 0, .int .i64 0, .nilSlc])).st (ds:=N7 (a0H (s4 bs p).1)) (clA _) ⟨rfl,by decide,by decide⟩ fun a'=> ?_
  rw[b5.set_set,show j4 [.int .u8 0, .int .i64 0, .int .i64 0, .nilSlc] 0 (N7 (a0H (s4 bs p).1))=N7 (a0H (s4 bs p).1) from rfl,a9c,oD,b9v,V7]
  have hg2:=hg.set (o:=⟨4,[N7 (a0H (s4 bs p).1)],a'⟩) nk
  refine⟨fun he=> ?_,fun he=> ?_⟩
  ·rw[if_neg he]at hrun
   rw[hrun]
   exact b9.less hg2.1 (b9.here ⟨rfl,rfl⟩)
  ·have he:(s4 bs p).2.2=0:=Classical.not_not.1 he
   obtain⟨_,h1,h2⟩:=b5T hb he
   rw[if_pos he,b8G]at hrun
   rw[(D3.new).all (n:=4) (by decide) rfl,oD,show o7 4 (List.replicate 1 [(D.int .u8 0),(.int .i64 0),(.int .i64 0), .nilSlc]) [(0, .agg (N7 (a0H (s4 bs p).1)))]=some [N7 (a0H (s4 bs p).1)]from rfl]
   refine E8 rfl ?_
   refine hg2.push (news:=[N7 (a0H (s4 bs p).1)]) (by simp[rowsS,C1]) (by simp) (by simp[t8];omega) fun t' T' _ hg3=> ?_
   rw[show o7 1 (List.replicate 1 [D.int .i64 0]) [(0, .int .i64 (p:Int))]=some (iC [(p:Int)]) from rfl]
   refine E8 rfl ?_
   refine hg3.swap.push (news:=iC [(p:Int)]) (by simp[rowsS,C1]) (by simp[iC,J5]) (by simp[C5];omega) fun u' T2 _ hg4=> ?_
   refine⟨n,by omega,by trivial,(s4 bs p).2.1,done++[((s4 bs p).1,p)],rfl,h2,by omega,by simp;omega, ?_,hrun⟩
   have e1:(t8 (done++[((s4 bs p).1,p)])).map N7=(t8 done).map N7++[N7 (a0H (s4 bs p).1)]:=by simp[t8]
   have e2:iC (C5 (done++[((s4 bs p).1,p)]))=iC (C5 done)++iC [(p:Int)]:=by rw[←a0S];simp[C5]
   rw[e1,e2]
   exact hg4.swap
 ·have e0:a2r bs (n+1) p= .ok []:=by rw[a2r,if_pos (by omega)]
  rw[e0]at hrun
  rw[hrun]
  have:c0W done (.ok [])= .ok done:=by simp[c0W]
  rw[this]
  exact b9.here ⟨_,_,rfl,hg⟩
end
theorem c1R{bs:List Int}(hb:∀b∈bs,J0 b):∀(n p:Nat) (l:List (Dat×Nat)),a2r bs n p= .ok l→p≤bs.length→l.length+p≤bs.length∧∀x∈l,(a0H x.1).Ok
 |0,p,l,h,hp=>by cases h;exact⟨by simpa using hp,by simp⟩
 |n+1,p,l,h,hp=>by
  by_cases hlt:p<bs.length
  ·rw[a2W hlt]at h
   split at h
   ·rename_i he
    obtain⟨h1,h2,h3⟩:=b5T hb he
    split at h
    ·rename_i l' e
     cases h
     obtain⟨g1,g2⟩:=c1R hb n _ l' e h3
     refine⟨by simp only[List.length_cons];omega,fun x hx=> ?_⟩
     rcases List.mem_cons.1 hx with rfl|hx
     ·exact h1
     ·exact g2 x hx
    ·cases h
   ·cases h
  ·have e0:a2r bs (n+1) p= .ok []:=by rw[a2r,if_pos (by omega)]
   rw[e0]at h
   cases h
   exact⟨by simpa using hp,by simp⟩
end
end Go.Proofs.Ytdkidgkiplcggaa.d
end
section
open Go.Proofs Go Go.Am
namespace Go.Proofs.Ytdkidgkiplcggaa.d
section
def b6D:List (Nat×List Nat):=[]
def b6Q:List (Nat×List Nat):=[]
def b6n:List (Nat×Arr):=[]
def a9E(E:g8)(w0:j0)(Q:D→b5→Prop)(S:b5):Prop:=
 o6 S [(.int .i64 0),(.int .i64 0),(.int .i64 0),(.bool false)] fun v0 S1=>
 b4 (B3 (l8 [(.int .i64 0),(.int .i64 0),(.int .i64 0),(.bool false)] [(0,1,(.int .i64 2)),(2,1,(.int .i64 65535))])) fun v2=>
 j1 S1 4 v0 v2 fun v3 S4=>
 b4 (l9 S4 4 v0) fun v5=>Q v5 S4
theorem b2q{E:g8}{w0:j0}{Q:D→b5→Prop}{S:b5}(h:a9E E w0 (b9 E Q) S):p8 Try.prog E w0 R4 [] S Q:=
 j6 b6D b6Q b6n (fn:=Try.f104) (c:=Try.f104.body.getD .skip) mixed Try.func104 (by kernel_rfl) (by kernel_rfl) h
def b6z:List (Nat×List Nat):=[]
def b7x:List (Nat×List Nat):=[]
def b7o:List (Nat×Arr):=[]
def a9H(E:g8)(w0:j0)(Q:D→b5→Prop)(a0:D)(S:b5):Prop:=
 o6 S [(.int .i64 0),(.int .i64 0),(.int .i64 0),(.bool false)] fun v0 S1=>
 b4 (B3 (l8 [(.int .i64 0),(.int .i64 0),(.int .i64 0),(.bool false)] [(0,1,(.int .i64 1)),(1,1,(.int .i64 1)),(2,1,a0)])) fun v2=>
 j1 S1 4 v0 v2 fun v3 S4=>
 b4 (l9 S4 4 v0) fun v5=>Q v5 S4
theorem b3g{E:g8}{w0:j0}{Q:D→b5→Prop}{a0:D}{S:b5}(h:a9H E w0 (b9 E Q) a0 S):p8 Try.prog E w0 M1 [a0] S Q:=
 j6 b6z b7x b7o (fn:=Try.f105) (c:=Try.f105.body.getD .skip) mixed Try.func105 (by kernel_rfl) (by kernel_rfl) h
def b7L:List (Nat×List Nat):=[]
def b7H:List (Nat×List Nat):=[]
def b8f:List (Nat×Arr):=[]
def b1C(E:g8)(w0:j0)(Q:D→b5→Prop)(S:b5):Prop:=
 o6 S [(.int .i64 0),(.int .i64 0),(.int .i64 0),(.bool false)] fun v0 S1=>
 b4 (B3 (l8 [(.int .i64 0),(.int .i64 0),(.int .i64 0),(.bool false)] [(0,1,(.int .i64 4)),(2,1,(.int .i64 4294967295))])) fun v2=>
 j1 S1 4 v0 v2 fun v3 S4=>
 b4 (l9 S4 4 v0) fun v5=>Q v5 S4
theorem b4o{E:g8}{w0:j0}{Q:D→b5→Prop}{S:b5}(h:b1C E w0 (b9 E Q) S):p8 Try.prog E w0 a1s [] S Q:=
 j6 b7L b7H b8f (fn:=Try.f75) (c:=Try.f75.body.getD .skip) mixed Try.func75 (by kernel_rfl) (by kernel_rfl) h
def b4O:List (Nat×List Nat):=[]
def b4n:List (Nat×List Nat):=[]
def b4l:List (Nat×Arr):=[]
def a7s(E:g8)(w0:j0)(Q:D→b5→Prop)(a0 a1:D)(S:b5):Prop:=
 b4 (s5 a0) fun cs=>o6 S cs fun v0 S1=>
 b4 (p9 1 v0) fun v2=>
 b4 (d9 S1 v2) fun v3=>
 b4 (d5 .geq a1 v3) fun v4=>
 b4 (d6 (b8 v4 true) (some a1)) fun v5=>
 b4 (d6 (b8 v4 true) (p9 2 v0)) fun v6=>
 b4 (d6 (b8 v4 true) (d9 S1 v6)) fun v7=>
 b4 (d6 (b8 v4 true) (d5 .leq v5 v7)) fun v8=>
 b4 (y9 v4 v8 (.bool false)) fun v9=>
 Q v9 S1
theorem b0L{E:g8}{w0:j0}{Q:D→b5→Prop}{a0 a1:D}{S:b5}(h:a7s E w0 (b9 E Q) a0 a1 S):p8 Try.prog E w0 a3b [a0,a1] S Q:=
 j6 b4O b4n b4l (fn:=Try.f106) (c:=Try.f106.body.getD .skip) mixed Try.func106 (by kernel_rfl) (by kernel_rfl) h
def b6Y:List (Nat×List Nat):=[]
def b6e:List (Nat×List Nat):=[]
def b7a:List (Nat×Arr):=[]
def a9D(E:g8)(w0:j0)(Q:D→b5→Prop)(a0:D)(S:b5):Prop:=
 b4 (d5 .eql a0 (.int .u8 1)) fun v0=>
 i5 v0
 (b4 (B3 (l8 [(.int .i64 0),(.int .i64 0),(.int .i64 0),(.bool false)] [(0,1,(.int .i64 1)),(1,1,(.int .i64 (-128))),(2,1,(.int .i64 127)),(3,1,(.bool true))])) fun v1=>
 C7 S 4 (o7 4 (List.replicate 1 [(.int .i64 0),(.int .i64 0),(.int .i64 0),(.bool false)]) [(0,v1)]) 1 fun v2 S3=>
 Q (.tup [v2,(.bool true)]) S3)
 (b4 (d5 .eql a0 (.int .u8 2)) fun v4=>
 i5 v4
 (b4 (B3 (l8 [(.int .i64 0),(.int .i64 0),(.int .i64 0),(.bool false)] [(0,1,(.int .i64 4)),(1,1,(.int .i64 (-2147483648))),(2,1,(.int .i64 2147483647)),(3,1,(.bool true))])) fun v5=>
 C7 S 4 (o7 4 (List.replicate 1 [(.int .i64 0),(.int .i64 0),(.int .i64 0),(.bool false)]) [(0,v5)]) 1 fun v6 S7=>
 Q (.tup [v6,(.bool true)]) S7)
 (b4 (d5 .eql a0 (.int .u8 3)) fun v8=>
 i5 v8
 (b4 (B3 (l8 [(.int .i64 0),(.int .i64 0),(.int .i64 0),(.bool false)] [(0,1,(.int .i64 8)),(1,1,(.int .i64 (-9223372036854775808))),(2,1,(.int .i64 9223372036854775807)),(3,1,(.bool true))])) fun v9=>
 C7 S 4 (o7 4 (List.replicate 1 [(.int .i64 0),(.int .i64 0),(.int .i64 0),(.bool false)]) [(0,v9)]) 1 fun v10 S11=>
 Q (.tup [v10,(.bool true)]) S11)
 (b4 (d5 .eql a0 (.int .u8 6)) fun v12=>
 b4 (d6 (b8 v12 false) (some a0)) fun v13=>
 b4 (d6 (b8 v12 false) (d5 .eql v13 (.int .u8 7))) fun v14=>
 b4 (y9 v12 (.bool true) v14) fun v15=>
 b4 (d6 (b8 v15 false) (some a0)) fun v16=>
 b4 (d6 (b8 v15 false) (d5 .eql v16 (.int .u8 8))) fun v17=>
 b4 (y9 v15 (.bool true) v17) fun v18=>
 b4 (d6 (b8 v18 false) (some a0)) fun v19=>
 b4 (d6 (b8 v18 false) (d5 .eql v19 (.int .u8 50))) fun v20=>
 b4 (y9 v18 (.bool true) v20) fun v21=>
 b4 (d6 (b8 v21 false) (some a0)) fun v22=>
 b4 (d6 (b8 v21 false) (d5 .eql v22 (.int .u8 36))) fun v23=>
 b4 (y9 v21 (.bool true) v23) fun v24=>
 b4 (d6 (b8 v24 false) (some a0)) fun v25=>
 b4 (d6 (b8 v24 false) (d5 .geq v25 (.int .u8 39))) fun v26=>
 b4 (d6 (b8 v24 false) (some v26)) fun v27=>
 b4 (d6 (b8 v27 true) (some a0)) fun v28=>
 b4 (d6 (b8 v27 true) (d5 .leq v28 (.int .u8 45))) fun v29=>
 b4 (d6 (b8 v24 false) (y9 v27 v29 (.bool false))) fun v30=>
 b4 (y9 v24 (.bool true) v30) fun v31=>
 i5 v31
 (p8 Try.prog E w0 R4 [] S fun v32 S33=>
 C7 S33 4 (o7 4 (List.replicate 1 [(.int .i64 0),(.int .i64 0),(.int .i64 0),(.bool false)]) [(0,v32)]) 1 fun v34 S35=>
 Q (.tup [v34,(.bool true)]) S35)
 (b4 (d5 .eql a0 (.int .u8 37)) fun v36=>
 b4 (d6 (b8 v36 false) (some a0)) fun v37=>
 b4 (d6 (b8 v36 false) (d5 .eql v37 (.int .u8 38))) fun v38=>
 b4 (y9 v36 (.bool true) v38) fun v39=>
 i5 v39
 (p8 Try.prog E w0 R4 [] S fun v40 S41=>
 p8 Try.prog E w0 R4 [] S41 fun v42 S43=>
 C7 S43 4 (o7 4 (List.replicate 2 [(.int .i64 0),(.int .i64 0),(.int .i64 0),(.bool false)]) [(0,v40),(1,v42)]) 2 fun v44 S45=>
 Q (.tup [v44,(.bool true)]) S45)
 (b4 (d5 .eql a0 (.int .u8 23)) fun v46=>
 b4 (d6 (b8 v46 false) (some a0)) fun v47=>
 b4 (d6 (b8 v46 false) (d5 .eql v47 (.int .u8 24))) fun v48=>
 b4 (y9 v46 (.bool true) v48) fun v49=>
 i5 v49
 (p8 Try.prog E w0 M1 [(.int .i64 5)] S fun v50 S51=>
 C7 S51 4 (o7 4 (List.replicate 1 [(.int .i64 0),(.int .i64 0),(.int .i64 0),(.bool false)]) [(0,v50)]) 1 fun v52 S53=>
 Q (.tup [v52,(.bool true)]) S53)
 (b4 (d5 .geq a0 (.int .u8 11)) fun v54=>
 b4 (d6 (b8 v54 true) (some a0)) fun v55=>
 b4 (d6 (b8 v54 true) (d5 .leq v55 (.int .u8 28))) fun v56=>
 b4 (y9 v54 v56 (.bool false)) fun v57=>
 i5 v57
 (p8 Try.prog E w0 M1 [(.int .i64 3)] S fun v58 S59=>
 C7 S59 4 (o7 4 (List.replicate 1 [(.int .i64 0),(.int .i64 0),(.int .i64 0),(.bool false)]) [(0,v58)]) 1 fun v60 S61=>
 Q (.tup [v60,(.bool true)]) S61)
 (b4 (d5 .eql a0 (.int .u8 29)) fun v62=>
 i5 v62
 (p8 Try.prog E w0 M1 [(.int .i64 3)] S fun v63 S64=>
 p8 Try.prog E w0 M1 [(.int .i64 3)] S64 fun v65 S66=>
 C7 S66 4 (o7 4 (List.replicate 2 [(.int .i64 0),(.int .i64 0),(.int .i64 0),(.bool false)]) [(0,v63),(1,v65)]) 2 fun v67 S68=>
 Q (.tup [v67,(.bool true)]) S68)
 (b4 (d5 .eql a0 (.int .u8 46)) fun v69=>
 b4 (d6 (b8 v69 false) (some a0)) fun v70=>
 b4 (d6 (b8 v69 false) (d5 .eql v70 (.int .u8 47))) fun v71=>
 b4 (y9 v69 (.bool true) v71) fun v72=>
 b4 (d6 (b8 v72 false) (some a0)) fun v73=>
 b4 (d6 (b8 v72 false) (d5 .eql v73 (.int .u8 48))) fun v74=>
 b4 (y9 v72 (.bool true) v74) fun v75=>
 i5 v75
 (p8 Try.prog E w0 a1s [] S fun v76 S77=>
 C7 S77 4 (o7 4 (List.replicate 1 [(.int .i64 0),(.int .i64 0),(.int .i64 0),(.bool false)]) [(0,v76)]) 1 fun v78 S79=>
 Q (.tup [v78,(.bool true)]) S79)
 (b4 (d5 .eql a0 (.int .u8 52)) fun v80=>
 i5 v80
 (b4 (B3 (l8 [(.int .i64 0),(.int .i64 0),(.int .i64 0),(.bool false)] [(0,1,(.int .i64 1)),(2,1,(.int .i64 255))])) fun v81=>
 C7 S 4 (o7 4 (List.replicate 1 [(.int .i64 0),(.int .i64 0),(.int .i64 0),(.bool false)]) [(0,v81)]) 1 fun v82 S83=>
 Q (.tup [v82,(.bool true)]) S83)
 (b4 (d5 .eql a0 (.int .u8 49)) fun v84=>
 i5 v84
 (p8 Try.prog E w0 M1 [(.int .i64 3)] S fun v85 S86=>
 C7 S86 4 (o7 4 (List.replicate 1 [(.int .i64 0),(.int .i64 0),(.int .i64 0),(.bool false)]) [(0,v85)]) 1 fun v87 S88=>
 Q (.tup [v87,(.bool true)]) S88)
 (b4 (d5 .geq a0 (.int .u8 1)) fun v89=>
 b4 (d6 (b8 v89 true) (some a0)) fun v90=>
 b4 (d6 (b8 v89 true) (d5 .leq v90 (.int .u8 52))) fun v91=>
 b4 (y9 v89 v91 (.bool false)) fun v92=>
 Q (.tup [.nilSlc,v92]) S)))))))))))
theorem b3y{E:g8}{w0:j0}{Q:D→b5→Prop}{a0:D}{S:b5}(h:a9D E w0 (b9 E Q) a0 S):p8 Try.prog E w0 a5c [a0] S Q:=
 j6 b6Y b6e b7a (fn:=Try.f72) (c:=Try.f72.body.getD .skip) mixed Try.func72 (by kernel_rfl) (by kernel_rfl) h
end
section
def a5b:List (Nat×List Nat):=[]
def a4O:List (Nat×List Nat):=[]
def a5j:List (Nat×Arr):=[]
def a0N(E:g8)(w0:j0)(Q:D→b5→Prop)(a0 a1:D)(S:b5):Prop:=
 p8 Try.prog E w0 W0 [a0,a1] S fun v0 S1=>
 b4 (d5 .geq v0 (.int .i64 0)) fun v2=>
 Q v2 S1
theorem a3q{E:g8}{w0:j0}{Q:D→b5→Prop}{a0 a1:D}{S:b5}(h:a0N E w0 (b9 E Q) a0 a1 S):p8 Try.prog E w0 a0Q [a0,a1] S Q:=
 j6 a5b a4O a5j (fn:=Try.f132) (c:=Try.f132.body.getD .skip) mixed Try.func132 (by kernel_rfl) (by kernel_rfl) h
def U0:List (Nat×List Nat):=[(4,[0,1,7,8])]
def T8:List (Nat×List Nat):=[]
def U1:List (Nat×Arr):=[]
noncomputable def P2:Code:=(i9 [1,0,1,0,0] (Try.f141.body.getD .skip))
def P8(E:g8)(w0:j0)(Q:D→b5→Prop):j7→List D→b5→Prop:=
 (p5 0 (L4 Try.prog E w0 U0 T8 U1 (i9 [1,1] (Try.f141.body.getD .skip)) (F5 Try.prog Try.f141 Q)))
def P0(E:g8)(w0:j0)(N0:D→D→D→D→b5→Prop)(Q:D→b5→Prop)(x0 x1 x7 x8:D)(S:b5):Prop:=
 b4 (d5 .lss x8 x7) fun v1=>
 i5 v1
 (b4 (j5 1 x0 x8) fun v2=>
 b4 (d9 S v2) fun v3=>
 b4 (d5 .eql x1 v3) fun v4=>
 i5 v4
 (Q x8 S)
 (b4 (d5 .add x8 (.int .i64 1)) fun v5=>
 N0 x0 x1 x7 v5 S))
 (Q (.int .i64 (-1)) S)
theorem a3W{E:g8}{w0:j0}{N0:D→D→D→D→b5→Prop}{Q:D→b5→Prop}{x0 x1 x7 x8:D}{S:b5}(h:P0 E w0 N0 Q x0 x1 x7 x8 S):
  f9 Try.prog E w0 P2 (i7 19 [0,1,7,8] [x0,x1,x7,x8]) S (A3 (fun T S=>N0 (T.getD 0 b6) (T.getD 1 b6) (T.getD 7 b6) (T.getD 8 b6) S) (P8 E w0 Q)):=g9 U0 T8 U1 mixed (by kernel_rfl) h
theorem a3Z{E:g8}{w0:j0}{Q:D→b5→Prop}(I:Nat→D→D→D→D→b5→Prop)
  (step:∀n x0 x1 x7 x8 S,I n x0 x1 x7 x8 S→P0 E w0 (fun x0 x1 x7 x8 S=>∃m,m<n∧I m x0 x1 x7 x8 S) Q x0 x1 x7 x8 S)
  {n:Nat} {x0 x1 x7 x8:D} {S:b5} (h:I n x0 x1 x7 x8 S):f9 Try.prog E w0 (.loop P2) (i7 19 [0,1,7,8] [x0,x1,x7,x8]) S (P8 E w0 Q):=
 o4 (k:=19) (n:=n) (I:=fun n T S=>I n (T.getD 0 b6) (T.getD 1 b6) (T.getD 7 b6) (T.getD 8 b6) S) (fun n T S hl hI=>q8 [0,1,7,8] hl (f9.mono (a3W (step n _ _ _ _ S hI)) fun ex T' S' _ hq=>by cases ex<;>exact hq)) (j2 ..) (Eq.mp (by kernel_rfl) h)
def a2l(E:g8)(w0:j0)(Q:D→b5→Prop)(a0 a1:D)(S:b5):Prop:=
 b4 (j9 a0) fun v0=>
 f9 Try.prog E w0 (.loop P2) (i7 19 [0,1,7,8] [a0,a1,v0,(.int .i64 0)]) S (P8 E w0 Q)
theorem a5w{E:g8}{w0:j0}{Q:D→b5→Prop}{a0 a1:D}{S:b5}(h:a2l E w0 (b9 E Q) a0 a1 S):p8 Try.prog E w0 W0 [a0,a1] S Q:=
 j6 U0 T8 U1 (fn:=Try.f141) (c:=Try.f141.body.getD .skip) mixed Try.func141 (by kernel_rfl) (by kernel_rfl) h
end
end Go.Proofs.Ytdkidgkiplcggaa.d
end
