/-
  ImageSpoiltSaid: part Pbf of its proof.
-/
import Derived.Test.YtchnpgddpaonhaaPbe
import Derived.Test.YtchnpgddpaonhaaPbd
import Derived.Test.YtchnpgddpaonhaaPbb
import Derived.Test.YtchnpgddpaonhaaPah
import Derived.Defers
import Derived.Recover
import Derived.Test.YtchnpgddpaonhaaPaq
set_option linter.unusedVariables false
set_option linter.unusedSimpArgs false
set_option maxRecDepth 100000
section
open Go.Proofs Go Go.Am Go.Op
namespace Go.Proofs.Ytchnpgddpaonhaa.d
section
def Ch3(B:b7)(t1:D)(R1:List (List D))(t2:D)(R2:List (List D))(t3:D)(R3:List (List D))(T:b7):Prop:=∃T1 T2,Grw B t1 R1 5 T1∧Grw T1 t2 R2 1 T2∧Grw T2 t3 R3 6 T
theorem c3z{T S:b7}{rows:List (List D)}{sz:Nat}(h:Grw T .nilSlc rows sz S):S=T:=by
 rcases h with ⟨_,_,e⟩|⟨_,_,_,e,_⟩
 ·exact e
 ·cases e
section
variable{B T T':b7}{t1 t2 t3:D}{R1 R2 R3:List (List D)}
theorem Ch3.le(h:Ch3 B t1 R1 t2 R2 t3 R3 T):B.le T:=by
 obtain⟨T1,T2,a,b,c⟩:=h
 exact b7.le_trans a.le (b7.le_trans b.le c.le)
theorem Ch3.nil(B:b7):Ch3 B .nilSlc [] .nilSlc [] .nilSlc [] B:=⟨B,B,Grw.nil _ _,Grw.nil _ _,Grw.nil _ _⟩
theorem Ch3.turn(h:Ch3 B t1 R1 t2 R2 t3 R3 T){ks:List Nat}(hk:Q2 ks T T')(hn:∀k∈ks,B k≠none):∃B',Ch3 B' t1 R1 t2 R2 t3 R3 T'∧Q2 ks B B'∧∀k∈ks,B' k=T' k:=by
 obtain⟨T1,T2,a,b,c⟩:=h
 have up:∀ {U V:b7},U.le V→(∀k∈ks,U k≠none)→∀k∈ks,V k≠none:=fun hle hu k hk e=>by
  cases e':(_:b7) k with
  |none=>exact hu k hk e'
  |some o=>rw[hle _ _ e']at e;cases e
 obtain⟨T2',c',k2,e2⟩:=a8b c hk (up b.le (up a.le hn))
 obtain⟨T1',b',k1,e1⟩:=a8b b k2 (up a.le hn)
 obtain⟨B',a',k0,e0⟩:=a8b a k1 hn
 exact⟨B',⟨T1',T2',a',b',c'⟩,k0,fun k hk=>by rw[e0 k hk,e1 k hk,e2 k hk]⟩
theorem Ch3.upd(h:Ch3 B t1 R1 t2 R2 t3 R3 T){k:Nat}{o o':L7}(hk:B k=some o'):Ch3 (B.set k o) t1 R1 t2 R2 t3 R3 (T.set k o):=by
 obtain⟨T1,T2,a,b,c⟩:=h
 exact⟨_,_,a.upd hk,b.upd (a.le _ _ hk),c.upd (b.le _ _ (a.le _ _ hk))⟩
theorem Ch3.new(h:Ch3 B t1 R1 t2 R2 t3 R3 T){k:Nat}{o:L7}(hk:T k=none):Ch3 (B.set k o) t1 R1 t2 R2 t3 R3 (T.set k o):=by
 obtain⟨T1,T2,a,b,c⟩:=h
 have n2:=b7.none_of c.le hk
 have n1:=b7.none_of b.le n2
 exact⟨_,_,a.under n1,b.under n2,c.under hk⟩
theorem Ch3.cells(h:Ch3 B t1 R1 t2 R2 t3 R3 T):r7 t1=some [t1]∧r7 t2=some [t2]∧r7 t3=some [t3]:=by
 obtain⟨T1,T2,a,b,c⟩:=h
 exact⟨b2J a,b2J b,b2J c⟩
theorem Ch3.push1(h:Ch3 B t1 R1 .nilSlc [] .nilSlc [] T){bytes:Nat}{v:D}{news:List (List D)}(hv:rowsS T 5 v=some news)(hb:0<bytes∧(2*(R1.length+news.length)+768)*bytes≤2^47){K:D→b7→Prop}(hK:∀t' T',Ch3 B t' (R1++news) .nilSlc [] .nilSlc [] T'→K t' T'):y9 T 5 bytes t1 v K:=by
 obtain⟨T1,T2,a,b,c⟩:=h
 obtain rfl:=c3z c
 obtain rfl:=c3z b
 exact a.push hv hb fun t' T' h=>hK t' T' ⟨T',T',h,Grw.nil _ _,Grw.nil _ _⟩
theorem Ch3.push2(h:Ch3 B t1 R1 t2 R2 .nilSlc [] T){bytes:Nat}{v:D}{news:List (List D)}(hv:rowsS T 1 v=some news)(hb:0<bytes∧(2*(R2.length+news.length)+768)*bytes≤2^47){K:D→b7→Prop}(hK:∀t' T',Ch3 B t1 R1 t' (R2++news) .nilSlc [] T'→K t' T'):y9 T 1 bytes t2 v K:=by
 obtain⟨T1,T2,a,b,c⟩:=h
 obtain rfl:=c3z c
 exact b.push hv hb fun t' T' h=>hK t' T' ⟨T1,T',a,h,Grw.nil _ _⟩
theorem Ch3.push3(h:Ch3 B t1 R1 t2 R2 t3 R3 T){bytes:Nat}{v:D}{news:List (List D)}(hv:rowsS T 6 v=some news)(hb:0<bytes∧(2*(R3.length+news.length)+768)*bytes≤2^47){K:D→b7→Prop}(hK:∀t' T',Ch3 B t1 R1 t2 R2 t' (R3++news) T'→K t' T'):y9 T 6 bytes t3 v K:=by
 obtain⟨T1,T2,a,b,c⟩:=h
 exact c.push hv hb fun t' T' h=>hK t' T' ⟨T1,T2,a,b,h⟩
theorem Ch3.fin{E:m6}(h:Ch3 B t1 R1 t2 R2 t3 R3 T){Q:D→b7→Prop}(hq:d9 E Q (.agg [.lst R1 5, .lst R2 1, .lst R3 6]) B):d9 E Q (.agg [t1,t2,t3]) T:=by
 obtain⟨T1,T2,a,b,c⟩:=h
 exact b6p (lp:=[t1,t2]) (lq:=[]) c (b6p (lp:=[t1]) (lq:=[.lst R3 6]) b (b6p (lp:=[]) (lq:=[.lst R2 1, .lst R3 6]) a hq))
end
def Ch4(S0 S1:b7)(k k2:Nat)(bs:List Int)(t1:D)(R1:List (List D))(t2:D)(R2:List (List D))(t3:D)(R3:List (List D))(k5 q:Nat)(c:List D)(T:b7):Prop:=
 ∃B,St2 S0 S1 k k2 bs q 3 [t1,t2,t3] B∧Ch3 B t1 R1 t2 R2 t3 R3 T∧w9 B k5 6 c
section
variable{S0 S1 T T' B:b7}{k k2 k5 q q':Nat}{bs:List Int}{t1 t2 t3:D}{R1 R2 R3:List (List D)}{c:List D}
theorem Ch4.start(sB:St2 S0 S1 k k2 bs q 3 [t1,t2,t3] B)(hg:Ch3 B t1 R1 t2 R2 t3 R3 T){a:List AV}(n:T k5=none):Ch4 S0 S1 k k2 bs t1 R1 t2 R2 t3 R3 k5 q c (T.set k5 ⟨6,[c],a⟩):=by
 have nB:=b7.none_of hg.le n
 exact⟨_,⟨w9.set sB.rd nB,w9.set sB.cl nB,sB.kp.trans (Q2.new nB _),b7.le_set sB.le (b7.none_of sB.le nB)⟩,hg.new n,w9.new⟩
theorem Ch4.rd(h:Ch4 S0 S1 k k2 bs t1 R1 t2 R2 t3 R3 k5 q c T):RdC T k bs q:=by
 obtain⟨B,s,g,cl⟩:=h;exact w9.le s.rd g.le
theorem Ch4.cl(h:Ch4 S0 S1 k k2 bs t1 R1 t2 R2 t3 R3 k5 q c T):w9 T k5 6 c:=by
 obtain⟨B,s,g,cl⟩:=h;exact cl.le g.le
theorem Ch4.md(h:Ch4 S0 S1 k k2 bs t1 R1 t2 R2 t3 R3 k5 q c T):w9 T k2 3 [t1,t2,t3]:=by
 obtain⟨B,s,g,cl⟩:=h;exact s.cl.le g.le
theorem Ch4.le(h:Ch4 S0 S1 k k2 bs t1 R1 t2 R2 t3 R3 k5 q c T):S1.le T:=by
 obtain⟨B,s,g,cl⟩:=h;exact b7.le_trans s.le g.le
theorem Ch4.read(h:Ch4 S0 S1 k k2 bs t1 R1 t2 R2 t3 R3 k5 q c T)(hne:k≠k2)(n5:k5≠k)(n1:S1 k=none)(hr:RdC T' k bs q')(hk:Q2 [k] T T'):Ch4 S0 S1 k k2 bs t1 R1 t2 R2 t3 R3 k5 q' c T':=by
 obtain⟨B,s,g,cl⟩:=h
 obtain⟨B',g',kB,eB⟩:=g.turn hk fun j hj=>by simp at hj;subst hj;exact w9.there s.rd
 exact⟨B',s.read hne (w9.of hr (eB k (by simp))) kB (kB.le s.le fun j hj=>by simp at hj;subst hj;exact n1),g',kB.cel (by simp;exact n5) cl⟩
theorem Ch4.st(h:Ch4 S0 S1 k k2 bs t1 R1 t2 R2 t3 R3 k5 q c T)(n5:k5≠k)(n2:k5≠k2)(n0:S0 k5=none)(n1:S1 k5=none){v:D}{ds:List D}{i:Nat}(hv:r7 v=some ds)(hn:ds.length=1∧0<1∧i+1≤c.length){K:D→b7→Prop}(hK:∀T',Ch4 S0 S1 k k2 bs t1 R1 t2 R2 t3 R3 k5 q (o8 c i ds) T'→K b8 T'):f0 T 1 (.ptr k5 i) v K:=by
 obtain⟨B,s,g,cl⟩:=h
 refine(cl.le g.le).st hv hn fun a=>hK _ ?_
 obtain⟨a4,e4⟩:=cl
 refine⟨_,⟨w9.set_ne s.rd n5.symm,w9.set_ne s.cl n2.symm,fun j o hj e=> ?_,fun j o e=> ?_⟩,g.upd e4,w9.new⟩
 ·rw[b7.set_ne _ _ _ fun e'=>by rw[e',n0]at e;cases e];exact s.kp j o hj e
 ·rw[b7.set_ne _ _ _ fun e'=>by rw[e',n1]at e;cases e];exact s.le _ _ e
end
section
variable{E:m6}{w0:o3}
variable{bs:List Int}(hb:∀b∈bs,H6 b)(hl:bs.length<2^30)
include hb hl
theorem c4A:b5D E w0 a0H [] bs (a9r bs) moD:=by
 intro S1 k p S hle n hp hS hX
 refine a7s ?_
 unfold a3l
 intro k2 a2 n2
 have hne:k≠k2:=w9.none hS n2
 have n12:S1 k2=none:=b7.none_of hle n2
 have sa:=St2.new (k2:=k2) (sz:=3) (c:=[.nilSlc, .nilSlc, .nilSlc]) (a:=a2) hS hle n2
 change o4 _ _ _ _ _ (S.set k2 ⟨3,[[.nilSlc, .nilSlc, .nilSlc]],a2⟩) _
 generalize S.set k2 ⟨3,[[.nilSlc, .nilSlc, .nilSlc]],a2⟩=Sa at sa ⊢
 unfold a9r at hX
 have kn:∀ {B:b7} {q:Nat} {c:List D},St2 S S1 k k2 bs q 3 c B→∀j∈[k],B j≠none:=fun s j hj=>by simp at hj;subst hj;exact w9.there s.rd
 have k1:∀j∈[k],S1 j=none:=fun j hj=>by simp at hj;subst hj;exact n
 have turn:∀ {B T T':b7} {q q':Nat} {t1 t2 t3:D} {R1 R2 R3:List (List D)},St2 S S1 k k2 bs q 3 [t1,t2,t3] B→Ch3 B t1 R1 t2 R2 t3 R3 T→RdC T' k bs q'→Q2 [k] T T'→∃B',St2 S S1 k k2 bs q' 3 [t1,t2,t3] B'∧Ch3 B' t1 R1 t2 R2 t3 R3 T':=fun sB hg hr hk=>by
  obtain⟨B',hg',kB,eB⟩:=hg.turn hk (kn sB)
  exact⟨B',sB.read hne (w9.of hr (eB k (by simp))) kB (kB.le sB.le k1),hg'⟩
 have put:∀ {B T:b7} {q:Nat} {t1 t2 t3 u1 u2 u3:D} {R1 R2 R3:List (List D)} {a:List AV},St2 S S1 k k2 bs q 3 [t1,t2,t3] B→Ch3 B u1 R1 u2 R2 u3 R3 T→∃B',St2 S S1 k k2 bs q 3 [u1,u2,u3] B'∧Ch3 B' u1 R1 u2 R2 u3 R3 (T.set k2 ⟨3,[[u1,u2,u3]],a⟩):=fun{B T q t1 t2 t3 u1 u2 u3 R1 R2 R3 a} sB hg=>by
  obtain⟨a4,e4⟩:=sB.cl
  exact⟨B.set k2 ⟨3,[[u1,u2,u3]],a⟩,⟨w9.set_ne sB.rd hne,w9.new,sB.kp.trans (Q2.set (by simp) _ _),fun j o e=>by
   rw[b7.set_ne _ _ _ fun e'=>by rw[e',n12]at e;cases e];exact sB.le _ _ e⟩,hg.upd e4⟩
 refine(a0V hb hl).go sa.le n hp sa.rd hX fun N1 q1 Sb hN1 h1 h2 hSb hkb hleb hX1=> ?_
 have sb:=sa.read hne hSb hkb hleb
 have hr1:=F6 hN1
 obtain⟨m1,rfl⟩:∃m:Nat,N1=(m:Int):=⟨N1.toNat,by omega⟩
 refine a5X (I:=fun r x0 x2 x5 x6 T=>x0= .ptr k 0∧x2= .ptr k2 0∧x5= .int .i64 (m1:Int)∧∃(acc:List Ty) (q3:Nat) (t:D) (B:b7),x6= .int .i64 (acc.length:Int)∧a9l (b3S bs) m1 q1 acc r q3∧q1≤q3∧q3≤bs.length∧Ch3 B t (acc.map O4) .nilSlc [] .nilSlc [] T∧St2 S S1 k k2 bs q3 3 [t, .nilSlc, .nilSlc] B) ?_ (n:=m1)
  ⟨rfl,rfl,rfl,[],q1, .nilSlc,Sb,rfl,a9l.start _ _ _,Nat.le_refl _,h2,Ch3.nil _,sb⟩
 rintro r _ _ _ _ T ⟨rfl,rfl,rfl,ts,q3,t,B,rfl,hI,hq1,hq2,hg,sB⟩
 unfold X9
 rw[K3,oD,M6]
 have hlen:=hI.1
 refine⟨fun hlt=> ?_,fun hge=> ?_⟩
 ·obtain⟨r,rfl⟩:∃r',r=r'+1:=⟨r - 1,by omega⟩
  have c1:w9 T k2 3 [t, .nilSlc, .nilSlc]:=w9.le sB.cl hg.le
  simp only[I3,oD,Nat.zero_add,c1.ld,List.getElem?_cons_zero]
  refine(d0x hb hl S1 k q3 T (b7.le_trans sB.le hg.le) n hq2 (w9.le sB.rd hg.le) fun x S'' e hle=>hX1 x S'' (Ps.bind_err (hI.err e)) hle).use ?_
  rintro v T1 ⟨y,q4,e,h3,h4,rfl,hR,hkT⟩
  obtain⟨B1,sB1,hg1⟩:=turn sB hg hR hkT
  have fw:=hkT.foot (i:=0) (by simp;exact Ne.symm hne) c1
  refine⟨fw,M7 (rows:=[O4 y]) rfl ⟨fw, ?_⟩⟩
  refine hg1.push1 (news:=[O4 y]) (by simp[rowsS,J5]) ⟨by decide,by simp;omega⟩ fun t' T2 hg2=> ?_
  have c2:w9 T2 k2 3 [t, .nilSlc, .nilSlc]:=w9.le sB1.cl hg2.le
  refine c2.st (ds:=[t']) hg2.cells.1 ⟨rfl,by simp,by simp⟩ fun a5=> ?_
  rw[E2,oD,m7 (by omega) (by omega)]
  obtain⟨B3,sB3,hg3⟩:=put (a:=a5) sB1 hg2
  exact⟨r,by omega,by trivial,by trivial,by trivial,ts++[y],q4,t',B3,by simp,hI.step e,by omega,h4,by rw[List.map_append];exact hg3,sB3⟩
 obtain rfl:r=0:=by omega
 have hX2:∀x S'',((P1 bs 32768).bind fun n=>(Ps.rep (a4Q bs 65536) n.toNat).bind fun xs=>(P1 bs 256).bind fun n=>(Ps.rep (b5o bs) n.toNat).bind fun fs=>b9f bs (⟨ts,xs,fs⟩:Mo)) q3= .error x→S1.le S''→a0S E w0 (b3F x) S'':=fun x S'' e hle=>hX1 x S'' (by rw[Int.toNat_natCast,Ps.bind_ok hI.fin];exact e) hle
 refine(a0V hb hl).go (b7.le_trans sB.le hg.le) n hq2 (w9.le sB.rd hg.le) hX2 fun N2 q5 T1 hN2 h3 h4 hT1 hkT1 hleT1 hX3=> ?_
 obtain⟨B1,sB1,hg1⟩:=turn sB hg hT1 hkT1
 have hr2:=F6 hN2
 obtain⟨m2,rfl⟩:∃m:Nat,N2=(m:Int):=⟨N2.toNat,by omega⟩
 refine a5V (I:=fun r x0 x2 x5 x6 T=>x0= .ptr k 0∧x2= .ptr k2 0∧x5= .int .i64 (m2:Int)∧∃(acc:List Tx) (q3:Nat) (u:D) (B:b7),x6= .int .i64 (acc.length:Int)∧a9l (a4Q bs 65536) m2 q5 acc r q3∧q5≤q3∧q3≤bs.length∧Ch3 B t (ts.map O4) u (u4 (acc.map D.str)) .nilSlc [] T∧St2 S S1 k k2 bs q3 3 [t,u, .nilSlc] B) ?_ (n:=m2)
  ⟨rfl,rfl,rfl,[],q5, .nilSlc,B1,rfl,a9l.start _ _ _,Nat.le_refl _,h4,hg1,sB1⟩
 rintro r _ _ _ _ U ⟨rfl,rfl,rfl,xs,q6,u,C,rfl,hJ,hq3,hq4,hh,sC⟩
 unfold Y2
 rw[K3,oD,M6]
 have hlen2:=hJ.1
 refine⟨fun hlt=> ?_,fun hge=> ?_⟩
 ·obtain⟨r,rfl⟩:∃r',r=r'+1:=⟨r - 1,by omega⟩
  have c1:w9 U k2 3 [t,u, .nilSlc]:=w9.le sC.cl hh.le
  simp only[I3,oD,Nat.zero_add,c1.ld,List.getElem?_cons_zero,List.getElem?_cons_succ]
  refine(a8x hb hl S1 k q6 U (b7.le_trans sC.le hh.le) n hq4 (w9.le sC.rd hh.le) fun x S'' e hle=>hX3 x S'' (Ps.bind_err (hJ.err e)) hle).use ?_
  rintro v T1 ⟨y,q7,e,h5,h6,rfl,hR,hkT⟩
  obtain⟨B1,sB1,hg1⟩:=turn sC hh hR hkT
  have fw:=hkT.foot (i:=1) (by simp;exact Ne.symm hne) c1
  refine⟨fw,M7 (rows:=[[.str y]]) rfl ⟨fw, ?_⟩⟩
  refine hg1.push2 (news:=[[.str y]]) (by simp[rowsS,J5]) ⟨by decide,by simp;omega⟩ fun t' T2 hg2=> ?_
  have c2:w9 T2 k2 3 [t,u, .nilSlc]:=w9.le sB1.cl hg2.le
  refine c2.st (ds:=[t']) hg2.cells.2.1 ⟨rfl,by simp,by simp⟩ fun a5=> ?_
  rw[E2,oD,m7 (by omega) (by omega)]
  obtain⟨B3,sB3,hg3⟩:=put (a:=a5) sB1 hg2
  exact⟨r,by omega,by trivial,by trivial,by trivial,xs++[y],q7,t',B3,by simp,hJ.step e,by omega,h6,by rw[List.map_append,a2t];exact hg3,sB3⟩
 obtain rfl:r=0:=by omega
 have hX4:∀x S'',((P1 bs 256).bind fun n=>(Ps.rep (b5o bs) n.toNat).bind fun fs=>b9f bs (⟨ts,xs,fs⟩:Mo)) q6= .error x→S1.le S''→a0S E w0 (b3F x) S'':=fun x S'' e hle=>hX3 x S'' (by rw[Int.toNat_natCast,Ps.bind_ok hJ.fin];exact e) hle
 refine(a0V hb hl).go (b7.le_trans sC.le hh.le) n hq4 (w9.le sC.rd hh.le) hX4 fun N3 q7 U1 hN3 h5 h6 hU1 hkU1 hleU1 hX5=> ?_
 obtain⟨C1,sC1,hh1⟩:=turn sC hh hU1 hkU1
 have hr3:=F6 hN3
 obtain⟨m3,rfl⟩:∃m:Nat,N3=(m:Int):=⟨N3.toNat,by omega⟩
 refine a5L (I:=fun r x0 x2 x5 x6 T=>x0= .ptr k 0∧x2= .ptr k2 0∧x5= .int .i64 (m3:Int)∧∃(acc:List Ro) (q3:Nat) (w:D) (B:b7),x6= .int .i64 (acc.length:Int)∧a9l (b5o bs) m3 q7 acc r q3∧q7≤q3∧q3≤bs.length∧Ch3 B t (ts.map O4) u (u4 (xs.map D.str)) w (acc.map roR) T∧St2 S S1 k k2 bs q3 3 [t,u,w] B) ?_ (n:=m3)
  ⟨rfl,rfl,rfl,[],q7, .nilSlc,C1,rfl,a9l.start _ _ _,Nat.le_refl _,h6,hh1,sC1⟩
 rintro r _ _ _ _ U ⟨rfl,rfl,rfl,fs,q8,w,C,rfl,hL,hq5,hq6,hh,sC⟩
 unfold Z0
 rw[K3,oD,M6]
 have hlen3:=hL.1
 refine⟨fun hlt=> ?_,fun hge=> ?_⟩
 ·obtain⟨r,rfl⟩:∃r',r=r'+1:=⟨r - 1,by omega⟩
  intro k5 a5 n5
  have nC:C k5=none:=b7.none_of hh.le n5
  have h5k:k5≠k:=(w9.none sC.rd nC).symm
  have h52:k5≠k2:=(w9.none sC.cl nC).symm
  have n05:S k5=none:=by
   cases e:S k5 with
   |none=>rfl
   |some o=>rw[sC.kp k5 o (by simp[h5k,h52]) e]at nC;cases nC
  have n15:S1 k5=none:=b7.none_of sC.le nC
  have p0:=Ch4.start (k5:=k5) (c:=[.str [], .nilSlc, .nilSlc, .int .i64 0, .int .i64 0, .nilSlc]) (a:=a5) sC hh n5
  change o4 _ _ _ _ _ (U.set k5 ⟨6,[[.str [], .nilSlc, .nilSlc, .int .i64 0, .int .i64 0, .nilSlc]],a5⟩) _
  generalize U.set k5 ⟨6,[[.str [], .nilSlc, .nilSlc, .int .i64 0, .int .i64 0, .nilSlc]],a5⟩=U0 at p0 ⊢
  have hXr:∀x S'',b5o bs q8= .error x→S1.le S''→a0S E w0 (b3F x) S'':=fun x S'' e hle=>hX5 x S'' (Ps.bind_err (hL.err e)) hle
  unfold b5o at hXr
  simp only[I3,oD,Nat.zero_add]
  refine(a8x hb hl).go p0.le n hq6 p0.rd hXr fun y1 j1 V1 g1 i1 l1 hV1 kV1 _ hXs=> ?_
  refine(p0.read hne h5k n hV1 kV1).st h5k h52 n05 n15 (clS _) ⟨rfl,by decide,by simp⟩ fun V2 p2=> ?_
  refine(b3v hb hl (by decide)).go p2.le n l1 p2.rd hXs fun y2 j2 V3 g2 i2 l2 hV3 kV3 _ hXs=> ?_
  refine(p2.read hne h5k n hV3 kV3).st h5k h52 n05 n15 (v:=iD y2) (ds:=[iD y2]) rfl ⟨rfl,by decide,by simp[o8]⟩ fun V4 p4=> ?_
  refine(b3v hb hl (by decide)).go p4.le n l2 p4.rd hXs fun y3 j3 V5 g3 i3 l3 hV5 kV5 _ hXs=> ?_
  refine(p4.read hne h5k n hV5 kV5).st h5k h52 n05 n15 (v:=iD y3) (ds:=[iD y3]) rfl ⟨rfl,by decide,by simp[o8]⟩ fun V6 p6=> ?_
  refine(R7 hb hl).go p6.le n l3 p6.rd hXs fun y4 j4 V7 g4 i4 l4 hV7 kV7 _ hXs=> ?_
  refine(p6.read hne h5k n hV7 kV7).st h5k h52 n05 n15 (clI _ _) ⟨rfl,by decide,by simp[o8]⟩ fun V8 p8=> ?_
  refine(R7 hb hl).go p8.le n l4 p8.rd hXs fun y5 j5 V9 g5 i5 l5 hV9 kV9 _ hXs=> ?_
  refine(p8.read hne h5k n hV9 kV9).st h5k h52 n05 n15 (clI _ _) ⟨rfl,by decide,by simp[o8]⟩ fun V10 p10=> ?_
  refine(a0V hb hl).go p10.le n l5 p10.rd hXs fun y6 j6 V11 g6 i6 l6 hV11 kV11 _ hXs=> ?_
  have p11:=p10.read hne h5k n hV11 kV11
  have hr6:=F6 g6
  refine(b0a hb hl (n:=y6) hr6.1 (by omega)).go p11.le n l6 p11.rd hXs fun y7 j7 V12 g7 i7 l7 hV12 kV12 _ hXs=> ?_
  have p12:=p11.read hne h5k n hV12 kV12
  refine(c0n (l:=y7) (by unfold b4l at g7;split at g7; ·cases g7
                         ·cases g7;simp;omega)).use ?_
  refine p12.st h5k h52 n05 n15 (v:=bD y7) (ds:=[bD y7]) rfl ⟨rfl,by decide,by simp[o8]⟩ fun V13 p13=> ?_
  replace p13:Ch4 S S1 k k2 bs t (ts.map O4) u (u4 (xs.map D.str)) w (fs.map roR) k5 j7 (roR ⟨y1,y2,y3,y4,y5,y7⟩) V13:=p13
  simp only[I3,oD,Nat.zero_add,p13.md.ld,List.getElem?_cons_zero,List.getElem?_cons_succ]
  rw[p13.cl.all (n:=6) (by decide) rfl,oD]
  refine M7 (rows:=[roR ⟨y1,y2,y3,y4,y5,y7⟩]) rfl ?_
  obtain⟨B1,sB1,hg1,_⟩:=p13
  refine hg1.push3 (news:=[roR ⟨y1,y2,y3,y4,y5,y7⟩]) (by simp[rowsS,J5]) ⟨by decide,by simp;omega⟩ fun t' T2 hg2=> ?_
  have c2:w9 T2 k2 3 [t,u,w]:=w9.le sB1.cl hg2.le
  refine c2.st (ds:=[t']) hg2.cells.2.2 ⟨rfl,by simp,by simp⟩ fun a6=> ?_
  rw[E2,oD,m7 (by omega) (by omega)]
  obtain⟨B3,sB3,hg3⟩:=put (a:=a6) sB1 hg2
  refine⟨r,by omega,by trivial,by trivial,by trivial,fs++[⟨y1,y2,y3,y4,y5,y7⟩],j7,t',B3,by simp,hL.step ?_,by omega,l7,by rw[List.map_append];exact hg3,sB3⟩
  unfold b5o
  rw[Ps.bind_ok g1,Ps.bind_ok g2,Ps.bind_ok g3,Ps.bind_ok g4,Ps.bind_ok g5,Ps.bind_ok g6,Ps.bind_ok g7];rfl
 obtain rfl:r=0:=by omega
 have hX6:∀x S'',b9f bs (⟨ts,xs,fs⟩:Mo) q8= .error x→S1.le S''→a0S E w0 (b3F x) S'':=fun x S'' e hle=>hX5 x S'' (by rw[Int.toNat_natCast,Ps.bind_ok hL.fin];exact e) hle
 have hcr:w9 U k 2 [bD bs, .int .i64 (q8:Int)]:=w9.le sC.rd hh.le
 have c1:w9 U k2 3 [t,u,w]:=w9.le sC.cl hh.le
 simp only[ndP,I3,oD,hcr.ld,List.getElem?_cons_zero,List.getElem?_cons_succ,Nat.zero_add,L9,K3]
 rw[M6]
 refine⟨fun hlt=> ?_,fun hge2=> ?_⟩
 ·exact hX6 ((q8:Int),130) _ (by unfold b9f;rw[if_pos (by omega)]) (b7.le_trans sC.le hh.le)
 rw[c1.all (n:=3) (by decide) rfl,oD]
 refine c1.st (ds:=[t,u,w]) (clA _) ⟨rfl,by simp,by simp⟩ fun a5=> ?_
 obtain⟨B3,sB3,hg3⟩:=put (a:=a5) sC hh
 have c2:w9 (U.set k2 ⟨3,[[t,u,w]],a5⟩) k2 3 [t,u,w]:=w9.new
 show a9 (j0 (U.set k2 ⟨3,[[t,u,w]],a5⟩) 3 (.ptr k2 0)) _
 rw[c2.all (n:=3) (by decide) rfl,oD]
 refine hg3.fin ?_
 obtain⟨e1,e2⟩:=sB3.end n2
 refine d9.here ⟨⟨ts,xs,fs⟩,q8, ?_,by omega,hq6,rfl,e1,e2⟩
 unfold a9r
 rw[Ps.bind_ok hN1,Int.toNat_natCast,Ps.bind_ok hI.fin,Ps.bind_ok hN2,Int.toNat_natCast,Ps.bind_ok hJ.fin,Ps.bind_ok hN3,Int.toNat_natCast,Ps.bind_ok hL.fin]
 unfold b9f
 rw[if_neg (by omega)]
end
end
section
theorem d3r{a:Nat}(h:a<2^32):IntKind.u32.wrap (a:Int)=a:=by
 show((a:Int) % 4294967296)=a
 omega
def U5:List Int:=[84,82,77,1]
def a3L:List Int→List Int→Nat→Option (Int×Int)
 |_,[],_=>none
 | [],_::_,i=>some ((i:Int),10)
 |b::bs,c::cs,i=>if b≠c then some ((i:Int),130) else a3L bs cs (i+1)
def c4O(bs:List Int):Int×Int×Int:=
 if bs.length<8∨(leN ((bs.drop 4).take 4):Int)>(bs.length:Int) - 12 then(0,(bs.length:Int),10)
 else if 8+leN ((bs.drop 4).take 4)+4<bs.length then(0,((8+leN ((bs.drop 4).take 4)+4:Nat):Int),130)
 else if(leN ((bs.drop (8+leN ((bs.drop 4).take 4))).take 4):Int)≠M1 ((bs.drop 8).take (leN ((bs.drop 4).take 4))) then(0,((8+leN ((bs.drop 4).take 4):Nat):Int),130)
 else(((8+leN ((bs.drop 4).take 4):Nat):Int),0,0)
def X4(bs:List Int):Int×Int×Int:=match a3L bs U5 0 with
 |some (at',e)=>(0,at',e)
 |none=>c4O bs
theorem c0r:∀ {cs bs:List Int} {i:Nat},a3L bs cs i=none→cs.length≤bs.length
 | [],bs,i,h=>by simp
 |c::cs,[],i,h=>by simp[a3L]at h
 |c::cs,b::bs,i,h=>by
  unfold a3L at h
  split at h
  ·cases h
  ·have:=c0r h;simp only[List.length_cons];omega
def d5p(r:Int×Int×Int):D:= .tup [.int .i64 r.1, .int .i64 r.2.1, .int .i64 r.2.2]
section
variable{E:m6}{w0:o3}
theorem b6t{bs:List Int}(hb:∀b∈bs,H6 b)(hl:bs.length<2^40):Y7 Try.prog E w0 a4C [bD bs] (d5p (X4 bs)):=fun S=>by
 refine b4n ?_
 unfold b0q
 rw[show p9 1 (List.replicate 4 [D.int .u8 0]) [(0, .int .u8 84),(1, .int .u8 82),(2, .int .u8 77),(3, .int .u8 1)]=some (u4 (U5.map (D.int .u8))) from rfl]
 simp only[u6,oD]
 refine .inr fun k2 a2 n2=> ?_
 simp only[c3k,b7.set_same]
 rw[if_pos (by decide)]
 refine .inr ⟨⟨by trivial,by decide,by decide⟩, ?_⟩
 rw[b7.erase_set _ _ _ n2]
 have e4:(D.lst (((u4 (U5.map (D.int .u8))).drop 0).take 4) 1)=bD U5:=rfl
 rw[e4,L9,oD]
 refine b1O (I:=fun n x0 x13 x14 x15 S'=>S'=S∧x0=bD bs∧x13=bD U5∧x14= .int .i64 4∧∃i:Nat,x15= .int .i64 (i:Int)∧i+n=4∧i≤bs.length∧a3L bs U5 0=a3L (bs.drop i) (U5.drop i) i) ?_ (n:=4)
  ⟨rfl,rfl,rfl,rfl,0,rfl,rfl,by omega,rfl⟩
 rintro n _ _ _ _ _ ⟨rfl,rfl,rfl,rfl,i,rfl,hi,hib,hm⟩
 unfold a2F
 rw[K3,oD,M6]
 refine⟨fun hlt=> ?_,fun hge=> ?_⟩
 ·have hi4:i<U5.length:=by simp only[U5,List.length_cons,List.length_nil];omega
  have hc:U5[i]? =some U5[i]:=List.getElem?_eq_getElem hi4
  rw[b5G hc,oD,lsE,List.getElem?_cons_zero,oD,L9,oD,a1T,oD,b9S,M6]
  rw[List.drop_eq_getElem_cons hi4]at hm
  refine⟨fun he=> ?_,fun he=> ?_⟩
  ·rw[List.drop_of_length_le (by omega),a3L]at hm
   refine d9.here ⟨?_,by trivial⟩
   unfold X4
   rw[hm];rfl
  ·have hib2:i<bs.length:=by omega
   have hj:bs[i]? =some bs[i]:=List.getElem?_eq_getElem hib2
   rw[b5G hj,oD,lsE,List.getElem?_cons_zero,oD,b4F,oD]
   rw[List.drop_eq_getElem_cons hib2,a3L]at hm
   by_cases h:bs[i]=U5[i]
   ·rw[if_neg (by simp[h])]at hm
    rw[h,show(U5[i] != U5[i])=false by simp,cdF,E2,oD,m7 (by omega) (by omega)]
    exact⟨n - 1,by omega,by trivial,by trivial,by trivial,by trivial,i+1,by simp,by omega,by omega,hm⟩
   ·rw[if_pos h]at hm
    rw[show(bs[i] != U5[i])=true by simp[h],cdT]
    refine d9.here ⟨?_,by trivial⟩
    unfold X4
    rw[hm];rfl
 ·have hi4:i=4:=by omega
  subst hi4
  have hm':a3L bs U5 0=none:=by rw[hm];cases h:bs.drop 4<;>rfl
  have hout:X4 bs=c4O bs:=by unfold X4;rw[hm']
  rw[hout]
  clear hm hm' hout
  have b4:∀b∈(bs.drop 4).take 4,H6 b:=fun b h=>hb b (List.mem_of_mem_drop (List.mem_of_mem_take h))
  have l4:=b1d b4
  have l4':leN ((bs.drop 4).take 4)<2^32:=Nat.lt_of_lt_of_le l4 (Nat.pow_le_pow_right (by decide) (by rw[List.length_take];omega))
  have hw:=a9D (E:=E) (w0:=w0) hb (by omega) (p:=4) (s:=4) (by omega) (by omega) (by omega)
  refine hw.use ?_
  unfold c4O
  generalize leN ((bs.drop 4).take 4)=N at*
  by_cases h8:bs.length<8
  ·rw[if_pos (by omega),if_pos (.inl h8)]
   simp only[exD,oD,List.getElem?_cons_zero,List.getElem?_cons_succ,b4F,wdB,show((10:Int) != 0)=true from rfl,show((true==false)=false) from rfl,vdF,pdB,if_true,cdT,L9]
   exact d9.pure
  rw[if_neg (by omega)]
  simp only[exD,oD,List.getElem?_cons_zero,List.getElem?_cons_succ,b4F,wdB,show((0:Int) != 0)=false from rfl,show((false==false)=true) from rfl,vdT,pdB,Bool.false_eq_true,if_false,L9,cvI,b0s,a3z]
  rw[m7 (by omega) (by omega),m7 (by omega) (by omega),M6]
  refine⟨fun hn=> ?_,fun hn=> ?_⟩
  ·rw[if_pos (.inr hn)]
   exact d9.pure
  rw[if_neg (by omega),E2,oD,m7 (by omega) (by omega),E2,oD,m7 (by omega) (by omega),K3,oD,M6]
  refine⟨fun he=> ?_,fun he=> ?_⟩
  ·rw[if_pos (by omega),show(8:Int)+(N:Int)+4=((8+N+4:Nat):Int) by omega]
   exact d9.pure
  rw[if_neg (by omega),show(8:Int)+(N:Int)=((8+N:Nat):Int) by omega]
  have hw2:=a9D (E:=E) (w0:=w0) hb (by omega) (p:=8+N) (s:=4) (by omega) (by omega) (by omega)
  refine hw2.use ?_
  have be:∀b∈(bs.drop (8+N)).take 4,H6 b:=fun b h=>hb b (List.mem_of_mem_drop (List.mem_of_mem_take h))
  have le:=b1d be
  have le':leN ((bs.drop (8+N)).take 4)<2^32:=Nat.lt_of_lt_of_le le (Nat.pow_le_pow_right (by decide) (by rw[List.length_take];omega))
  rw[if_neg (by omega)]
  simp only[exD,oD,List.getElem?_cons_zero,List.getElem?_cons_succ,cvI]
  have hsl:=d5z (rows:=u4 (bs.map (D.int .u8))) (sz:=1) (l:=8) (h:=8+N) (by omega) (by simp[u4];omega)
  change Q1 1 (bD bs) _ _ _=_ at hsl
  rw[show((8:Nat):Int)=8 from rfl]at hsl
  rw[hsl,oD]
  have hrow:((u4 (bs.map (D.int .u8))).drop 8).take (8+N - 8)=u4 (((bs.drop 8).take N).map (D.int .u8)):=by
   rw[show 8+N - 8=N by omega]
   simp[u4,List.map_take,List.map_drop]
  rw[hrow]
  refine DF.weak (es:=[bD ((bs.drop 8).take N)]) ⟨b9q _ _ _,trivial⟩ ((b7K (E:=E) (w0:=w0) (bs:=(bs.drop 8).take N) (by rw[List.length_take,List.length_drop];omega)).use ?_)
  rw[d3r le',b4F,oD]
  by_cases hs:(leN ((bs.drop (8+N)).take 4):Int)=M1 ((bs.drop 8).take N)
  ·rw[if_neg (by simp[hs]),hs,show ∀x:Int,(x != x)=false from fun x=>by simp,cdF]
   exact d9.pure
  ·rw[if_pos hs,show((leN ((bs.drop (8+N)).take 4):Int) != M1 ((bs.drop 8).take N))=true by simp[hs],cdT]
   exact d9.pure
end
end
end Go.Proofs.Ytchnpgddpaonhaa.d
end
section
namespace Go.Am
section
section
variable{P:Program}{E:m6}{w0:a5P}
def d4z(E:m6)(w0:a5P)(ks:List Tmp)(tm:Array Value)(H:AHeap)(ρ:B4)(ds:List Deferred)(R:Exit→Act→World→Prop):Prop:=
 ∀u v ρ' H' a' w',w0.X v H'→Nx ρ ρ' H H'→rel ρ' v u→G9 E w0 H' w' ρ'→a'.defers=ds→(∀t∈ks,a'.tmps[t]? =tm[t]?)→R (.panic (a6S u)) a' w'
theorem c6T{ks:List Tmp}{ops:Array Oper}{T:List AV}{H:AHeap}{o:Oper}{Q:AV→AHeap→Prop}(h:a2M P E w0 ops T H o Q){i:Nat}(ho:ops[i]? =some o)
  {w:World} {ρ:B4} (R:G9 E w0 H w ρ) {a:Act} (hT:t9 ρ T a.tmps.toList) (hf:P8 ρ H) {K:Act→World→Prop} {S:Exit→Act→World→Prop}
  (hK:∀v H' ρ' vv w',Q v H'→Nx ρ ρ' H H'→rel ρ' v vv→G9 E w0 H' w' ρ'→K (a.put o.dst vv) w') (hP:d4z E w0 ks a.tmps H ρ a.defers S):wpOp P ops S i K a w:=by
 unfold wpOp
 rw[ho]
 simp only
 unfold a2M a7F at h
 split at h
 ·rename_i hw
  rw[a9P hw hT,if_pos rfl]
  left
  unfold Oper.wp
  unfold c2r at h
  split at h
  ·rename_i v1 H1 h1
   obtain⟨nx,vv,w',ρ',g1,g2,g3,g4,g5,g6,g7⟩:=b2x R h1 (a4n hT) hf.fresh
   rw[g1]
   rcases g2 with rfl|⟨rfl,rfl⟩
   ·exact hK _ _ ρ' vv w' h ⟨g3,g7,g4⟩ g5 g6
   ·exact hK _ _ ρ' undef w' h ⟨g3,g7,g4⟩ g5 g6
  ·rename_i f args H1 h1
   obtain⟨rfl,vargs,g1,g2⟩:=b2x R h1 (a4n hT)
   rw[g1]
   refine Calls.mono (h w ρ vargs R hf g2) ?_
   intro e w' he
   cases e with
   |returned u=>
    obtain⟨ρ',v,H',k1,k2,k3,k4⟩:=he
    exact hK _ _ ρ' u w' k1 k2 k3 k4
   |panicked c=>
    obtain⟨u,ρ',v,H',rfl,k1,k2,k3,k4⟩:=he
    exact hP u v ρ' H' a w' k1 k2 k3 k4 rfl fun _ _=>rfl
   |outgrown=>exact he.elim
  ·unfold c7P at h
   split at h
   ·rename_i x hx
    obtain⟨⟨t,v,e⟩,hX⟩:=h
    have hr:=a4n hT x
    rw[e]at hr hX
    have hr':=hr
    simp only[rel]at hr
    obtain⟨y,hy,_⟩:=hr
    have hrun:(execOp a.eval o).run P w= .halt (.panic (.iface t y)) w:=by
     obtain⟨dst,op,ty,pos,after,guard⟩:=o
     simp only at hx
     subst hx
     simp only[execOp,hy]
     rfl
    rw[hrun,Oper.upon_panic]
    rw[hy]at hr'
    exact hP _ _ ρ H a w hX (Nx.refl _ _) hr' R rfl fun _ _=>rfl
   ·cases h
 ·rename_i hw
  rw[a9P hw hT,if_neg Bool.false_ne_true]
  exact hK _ _ ρ undef w h (Nx.refl _ _) a3u R
 ·cases h
theorem d2d{ks:List Tmp}(a:Act){dst:Option Tmp}(hd:∀d,dst=some d→d ∉ ks)(v:Value):∀t∈ks,(a.put dst v).tmps[t]? =a.tmps[t]? :=by
 intro t ht
 cases dst with
 |none=>rfl
 |some d=>
  simp only[Act.put]
  rw[Array.getElem?_setIfInBounds_ne (fun e=>hd d rfl (by rw[e];exact ht))]
theorem b9L{ks:List Tmp}{ops:Array Oper}{S:Exit→Act→World→Prop}:∀(l:List Oper) (i:Nat) (T:List AV) (H:AHeap) (Q:List AV→AHeap→Prop),c8f P E w0 ops l T H Q→ops.toList.drop i=l→(∀o∈l,∀d,o.dst=some d→d ∉ ks)→
  ∀(w:World) (ρ:B4) (a:Act),G9 E w0 H w ρ→t9 ρ T a.tmps.toList→P8 ρ H→(∀T' H' a' w',Q T' H'→StA E w0 H ρ a.defers T' H' a' w'→S .normal a' w')→d4z E w0 ks a.tmps H ρ a.defers S→
   wpOps P ops S (List.range' i l.length) a w
 | [],i,T,H,Q,h,_,_,w,ρ,a,R,hT,hf,hQ,hP=>by
  simp only[List.length_nil,List.range'_zero,wpOps]
  exact hQ T H a w h ⟨ρ,Nx.refl _ _,hT,R,rfl⟩
 |o::l,i,T,H,Q,h,hl,hks,w,ρ,a,R,hT,hf,hQ,hP=>by
  have hdr:ops.toList.drop (i+1)=l:=by
   have:=congrArg List.tail hl
   rw[List.tail_drop]at this
   exact this
  have ho:ops[i]? =some o:=by
   have:(ops.toList.drop i)[0]? =some o:=by rw[hl];rfl
   rw[List.getElem?_drop]at this
   simpa using this
  have hlen:(List.range' i (o::l).length)=i::List.range' (i+1) l.length:=by
   simp[List.range'_succ]
  rw[hlen,wpOps_cons]
  refine c6T h ho R hT hf ?_ hP
  intro v H1 ρ' vv w' g0 g1 g2 g3
  refine b9L l (i+1) _ _ _ g0 hdr (fun o ho=>hks o (List.mem_cons_of_mem _ ho)) w' ρ' _ g3 (a9o (K9 g1.1 _ _ hT) g2) (hf.step g1) ?_ (by
   rw[a0r]
   intro u v' ρ2 H2 a2 w2 hx hn hr hR hd hk
   exact hP u v' ρ2 H2 a2 w2 hx (g1.trans hn) hr hR hd fun t ht=>by rw[hk t ht,d2d a (hks o (by simp)) vv t ht])
  intro T' H' a' w'' hq hst
  rw[a0r]at hst
  exact hQ T' H' a' w'' hq (StA.trans g1 hst)
theorem d2W{ks:List Tmp}{id:Nat}{ops:Array Oper}{T:List AV}{H:AHeap}{Q:List AV→AHeap→Prop}(h:c8f P E w0 ops ops.toList T H Q)(hks:∀o∈ops.toList,∀d,o.dst=some d→d ∉ ks)
  {w:World} {ρ:B4} {a:Act} {R:Exit→Act→World→Prop} (hR:G9 E w0 H w ρ) (hf:P8 ρ H) (hT:t9 ρ T a.tmps.toList) (hk:∀T' H' a' w',Q T' H'→StA E w0 H ρ a.defers T' H' a' w'→R .normal a' w') (hp:d4z E w0 ks a.tmps H ρ a.defers R):
  (Code.region id ops false).wp P R a w:=by
 refine wp_region ?_
 have:=b9L (S:=R) ops.toList 0 T H _ h rfl hks w ρ a hR hT hf hk hp
 rwa [List.range_eq_range', ←Array.length_toList]
theorem d1D{ρ:B4}{ks:List Tmp}{T:List AV}{tm tm':Array Value}(hT:t9 ρ T tm.toList)(hk:∀t∈ks,tm'[t]? =tm[t]?):∃T',t9 ρ T' tm'.toList∧∀t∈ks,T'.getD t A0=T.getD t A0:=by
 refine⟨(List.range tm'.size).map fun t=>if t∈ks then T.getD t A0 else .opq (tm'.getD t undef),b7T (by simp) fun i a v ha hv=> ?_,fun t ht=> ?_⟩
 ·simp only[List.getElem?_map,Option.map_eq_some_iff]at ha
  obtain⟨j,hj,rfl⟩:=ha
  rw[List.getElem?_range]at hj
  ·cases hj
   split
   ·rename_i hm
    have:=b2y hT i
    have e:tm.getD i undef=v:=by
     rw[Array.getD_eq_getD_getElem?, ←hk i hm, ←Array.getElem?_toList,hv];rfl
    rwa [e]at this
   ·simp only[rel]
    rw[Array.getD_eq_getD_getElem?, ←Array.getElem?_toList,hv];rfl
  ·refine Nat.lt_of_not_le fun hle=> ?_
   rw[List.getElem?_eq_none (by simpa using hle)]at hv
   cases hv
 ·rw[List.getD_eq_getElem?_getD,List.getElem?_map]
  by_cases hlt:t<tm'.size
  ·rw[List.getElem?_range hlt]
   simp[ht]
  ·rw[List.getElem?_eq_none (by simpa using hlt)]
   have h1:tm[t]? =none:=by rw[←hk t ht];exact Array.getElem?_eq_none (Nat.le_of_not_lt hlt)
   have hl:=w7 hT
   simp only[Array.length_toList]at hl
   have h2:tm.size≤t:=Array.getElem?_eq_none_iff.1 h1
   rw[List.getD_eq_getElem?_getD,List.getElem?_eq_none (by omega)]
   rfl
theorem a8L{ks:List Tmp}{H:AHeap}{T T':List AV}(hk:∀t∈ks,T'.getD t A0=T.getD t A0):∀ {l:List ResultVar} {K:List AV→Prop},(∀r∈l,∃a t,r= .cell a t∧a∈ks)→R9 P E H T l K→R9 P E H T' l K
 | [],K,_,h=>h
 |r::l,K,hr,h=>by
  obtain⟨a,t,rfl,ha⟩:=hr r (by simp)
  simp only[R9]at h ⊢
  rw[hk a ha]
  split at h
  ·rename_i o i e
   unfold a9 at h ⊢
   split at h
   ·exact a8L hk (fun r hm=>hr r (List.mem_cons_of_mem _ hm)) h
   ·exact h.elim
  ·exact h.elim
def c3J(P:Program)(E:m6)(w0:a5P)(fn:Func)(Q:AV→AHeap→Prop)(c:Code)(T:List AV)(H:AHeap):Prop:=
 ∀(w:World) (ρ:B4) (a:Act) (R:Ending→World→Prop),G9 E w0 H w ρ→P8 ρ H→t9 ρ T a.tmps.toList→a.defers=[]→(∀e w',b3W E w0 ρ H Q e w'→R e w')→c.wp P (bodyPostD P fn R) a w
theorem b3W.trans{ρ ρ1:B4}{H H1:AHeap}{Q:AV→AHeap→Prop}(h1:Nx ρ ρ1 H H1){e:Ending}{w:World}(h:b3W E w0 ρ1 H1 Q e w):b3W E w0 ρ H Q e w:=by
 cases e with
 |returned u=>
  obtain⟨ρ',v,H',a,b,c⟩:=h
  exact⟨ρ',v,H',a,h1.trans b,c⟩
 |panicked c=>
  obtain⟨u,ρ',v,H',a,b,b',c⟩:=h
  exact⟨u,ρ',v,H',a,b,h1.trans b',c⟩
 |outgrown=>exact h
theorem d1A{fn:Func}{Q:AV→AHeap→Prop}{ρ ρ':B4}{H H':AHeap}{T:List AV}{a:Act}{w:World}(h:R9 P E H' T fn.results.toList fun vs=>Q (b3y vs) H')(hn:Nx ρ ρ' H H')(hT:t9 ρ' T a.tmps.toList)(hR:G9 E w0 H' w ρ')
  {R:Ending→World→Prop} (hr:∀e w',b3W E w0 ρ H Q e w'→R e w'):∃v,(results fn a.tmps).run P w= .ok v w∧R (.returned v) w:=by
 obtain⟨vs,h1,h2⟩:=c0E h
 obtain⟨u,k1,k2⟩:=b2s (P:=P) hR h2 hT
 exact⟨u,k1,hr _ _ ⟨ρ',_,H',h1,hn,k2,hR⟩⟩
theorem d2h{fn:Func}{Q:AV→AHeap→Prop}{x y:Code}{T:List AV}{H:AHeap}
  (h:G8 P E w0 x T H fun ex T' H'=>match ex with| .normal=>c3J P E w0 fn Q y T' H'| .ret=>R9 P E H' T' fn.results.toList fun vs=>Q (b3y vs) H'| .exit _=>False):c3J P E w0 fn Q (.seq x y) T H:=by
 intro w ρ a R hR hf hT hd hr
 refine wp_seq (h w ρ a _ hR hf hT (fun ex T' H' a' w' hq hst=> ?_) fun u v ρ' H' a' w' h1 h2 h3 h4 h5=> ?_)
 ·obtain⟨ρ',g1,g2,g3,g4,g5⟩:=hst.fresh hf
  cases ex with
  |normal=>exact hq w' ρ' a' R g4 g2 g3 (by rw[g5,hd]) fun e w' he=>hr e w' (he.trans g1)
  |ret=>
   show Leaves P fn a'.tmps R a'.defers .returning w'
   rw[g5,hd]
   exact d1A hq g1 g3 g4 hr
  |exit id=>exact hq.elim
 ·show Leaves P fn a'.tmps R a'.defers (.panicking (a6S u)) w'
  rw[h5,hd]
  exact hr _ _ ⟨u,ρ',v,H',rfl,h1,h2,h3,h4⟩
theorem d2E{f:FuncId}{fn:Func}{c:Code}(hfn:P.funcs[f]? =some fn)(hb:fn.body=some c){args:List AV}{H:AHeap}{Q:AV→AHeap→Prop}
  (h:c3J P E w0 fn Q c (args++List.replicate (fn.ntmps - args.length) A0) H):FnW P E w0 f args H Q:=by
 intro w ρ vargs R hf hr
 refine calls_of_wp_defers hfn hb (h w ρ _ _ R hf ?_ rfl fun _ _ h=>h)
 have hl:=w7 hr
 simp only[Array.length_toList]at hl
 rw[Array.toList_append,Array.toList_replicate, ←hl]
 refine N9 hr ?_
 generalize fn.ntmps - args.length=m
 induction m with
 |zero=>exact t8.2 rfl
 |succ m ihm=>exact r0.2 ⟨a3u,ihm⟩
def b9w(G:AHeap→Prop)(ex:r4)(H:AHeap):Prop:=match ex with
 | .exit _=>False
 |_=>G H
theorem c7h{g:FuncId}{fng:Func}{c2:Code}{x y:Nat}{id:Nat}{t1 t2:TypeId}{p1 p2:String}{af1 af2:Array Edge}
  (hfn:P.funcs[g]? =some fng) (hb:fng.body=some (.seq (.region id #[⟨some x, .call ⟨.builtin .recover, #[], #[]⟩,t1,p1,af1,none⟩,⟨some y, .assign (.tmp x),t2,p2,af2,none⟩] false) c2)) (hres:fng.results= #[])
  {args:List AV} {H:AHeap} {w:World} {ρ:B4} {vargs:Array Value} (hR:G9 E w0 H w ρ) (hf:P8 ρ H) (hr:t9 ρ args vargs.toList) (hx:x<fng.ntmps) (hargs:args.length≤x)
  {v:AV} {mode:FrameMode} (hm:(mode= .returning∧v= .nilIfc)∨∃u,mode= .panicking (a6S u)∧rel ρ v u) {G:AHeap→Prop}
  (h:G8 P E (b7D w0.w) c2 (((args++List.replicate (fng.ntmps - args.length) A0).set x v).set y v) H fun ex _ H'=>b9w G ex H'):
  CallsD P g vargs mode w fun e u' w'=>∃vv,e= .returned vv∧settle u'= .returning∧∃ρ' H',G H'∧Nx ρ ρ' H H'∧G9 E w0 H' w' ρ':=by
 refine callsD_of_wpS hfn hb fun c₀ cs hu=> ?_
 have hrow:t9 ρ (args++List.replicate (fng.ntmps - args.length) A0) (vargs++Array.replicate (fng.ntmps - vargs.size) undef).toList:=by
  have hl:=w7 hr
  simp only[Array.length_toList]at hl
  rw[Array.toList_append,Array.toList_replicate, ←hl]
  refine N9 hr ?_
  generalize fng.ntmps - args.length=m
  induction m with
  |zero=>exact t8.2 rfl
  |succ m ihm=>exact r0.2 ⟨a3u,ihm⟩
 obtain⟨a,ha⟩:∃a:Act,a= { tmps:=vargs++Array.replicate (fng.ntmps - vargs.size) undef,defers:=[] }:=⟨_,rfl⟩
 rw[←ha]
 have had:a.defers=[]:=by rw[ha]
 have hrow:t9 ρ (args++List.replicate (fng.ntmps - args.length) A0) a.tmps.toList:=by rw[ha];exact hrow
 clear ha
 have go:∀(u:Value) (u':FrameMode),rel ρ v u→settle u'= .returning→c2.wpS P (bodyPostS P fng c₀ cs fun e u' w'=>∃vv,e= .returned vv∧settle u'= .returning∧∃ρ' H',G H'∧Nx ρ ρ' H H'∧G9 E w0 H' w' ρ')
   ((a.put (some x) u).put (some y) u) ({ c₀ with mode:=u' }::cs) w:=by
  intro u u' hv hs
  have hT2:t9 ρ (((args++List.replicate (fng.ntmps - args.length) A0).set x v).set y v) ((a.put (some x) u).put (some y) u).tmps.toList:=a9o (dst:=some y) (a9o (dst:=some x) hrow hv) hv
  refine wpS_of_wp (h w ρ _ _ hR hf hT2 (fun ex T' H' a' w' hq hst=> ?_) fun _ _ _ _ _ _ hx=>hx.elim)
  obtain⟨ρ',g1,g2,g3,g4⟩:=hst
  rw[a0r,a0r,had]at g4
  have fin:(ex= .normal∨ex= .ret)→bodyPostS P fng c₀ cs (fun e u' w'=>∃vv,e= .returned vv∧settle u'= .returning∧∃ρ' H',G H'∧Nx ρ ρ' H H'∧G9 E w0 H' w' ρ') .normal a' ({ c₀ with mode:=u' }::cs) w':=fun hex=>by
   have hG:G H':=by rcases hex with rfl|rfl<;>exact hq
   refine⟨g4,u',rfl, .tuple #[], ?_,_,rfl,hs,ρ',H',hG,g1,g3⟩
   simp[results,hres,Sem.run,go_sem]
  cases ex with
  |normal=>exact fin (.inl rfl)
  |ret=>exact fin (.inr rfl)
  |exit id=>exact hq.elim
 refine wpS_seq (wpS_region ?_)
 have hget:∀u:Value,(a.put (some x) u).eval (.tmp x)=u:=by
  intro u
  have hl:=w7 hrow
  simp only[Array.length_toList,List.length_append,List.length_replicate]at hl
  simp[Act.eval,Act.put,Array.getD_eq_getD_getElem?]
  intro hle;exfalso;omega
 show wpOpsS P _ _ [0,1] a (c₀::cs) w
 have e1:(execOp a.eval ⟨some x, .call ⟨.builtin .recover, #[], #[]⟩,t1,p1,af1,none⟩).run P w= .ok .recover w:=rfl
 have e2:∀u:Value,(execOp (a.put (some x) u).eval ⟨some y, .assign (.tmp x),t2,p2,af2,none⟩).run P w= .ok (.value u) w:=fun u=>by
  show Result.ok (Next.value ((a.put (some x) u).eval (.tmp x))) w=_
  rw[hget]
 rcases hm with ⟨rfl,rfl⟩|⟨u,rfl,hv⟩
 ·have hrec:recoverD (c₀::cs)=none:=by simp only[recoverD,hu]
  have:=go .nilIface .returning (by simp only[rel]) rfl
  have hc:({ c₀ with mode:= .returning }:Frame)=c₀:=by rw[←hu]
  rw[hc]at this
  simp only[wpOpsS,List.getElem?_toArray,List.getElem?_cons_zero,List.getElem?_cons_succ]
  simp only[Region.wanted,if_true,e1,hrec,e2]
  exact this
 ·have hrec:recoverD (c₀::cs)=some (u, { c₀ with mode:= .panicking ({ v:=u,recovered:=true }::[]) }::cs):=by simp only[recoverD,hu,a6S]
  have:=go u (.panicking ({ v:=u,recovered:=true }::[])) hv rfl
  simp only[wpOpsS,List.getElem?_toArray,List.getElem?_cons_zero,List.getElem?_cons_succ]
  simp only[Region.wanted,if_true,e1,hrec,e2]
  exact this
def c3Z(P:Program)(E:m6)(w0:a5P)(fn fng:Func)(c2:Code)(x y:Nat)(Q:AV→AHeap→Prop)(caps:List AV)(v:AV)(T:List AV)(H:AHeap):Prop:=
 G8 P E (b7D w0.w) c2 (((caps++List.replicate (fng.ntmps - caps.length) A0).set x v).set y v) H fun ex _ H'=>b9w (fun H'=>R9 P E H' T fn.results.toList fun vs=>Q (b3y vs) H') ex H'
theorem c7G{g:FuncId}{fn fng:Func}{c2:Code}{x y:Nat}{id:Nat}{t1 t2:TypeId}{p1 p2:String}{af1 af2:Array Edge}
  (hfn:P.funcs[g]? =some fng) (hb:fng.body=some (.seq (.region id #[⟨some x, .call ⟨.builtin .recover, #[], #[]⟩,t1,p1,af1,none⟩,⟨some y, .assign (.tmp x),t2,p2,af2,none⟩] false) c2)) (hres:fng.results= #[]) (hname:fng.name≠"runtime.NumGoroutine")
  {Q:AV→AHeap→Prop} {ks:List Tmp} (hks:∀r∈fn.results.toList,∃a t,r= .cell a t∧a∈ks) {d:Nat} {caps:Array Operand} (hx:x<fng.ntmps) (hcx:caps.size≤x)
  {i6 i8:Nat} {t3 t4:TypeId} {p3 p4:String} {af3 af4:Array Edge} {ops8:Array Oper} (hops:∀o∈ops8.toList,∀d,o.dst=some d→d ∉ ks) {cx cy:Code} {T:List AV} (hd:d<T.length) {H:AHeap}
  (h:G8 P E (b7D w0.w) cx (T.set d (.fn (.func g) [] (caps.toList.map (o0 T)))) H fun ex T' H'=>match ex with
   | .normal=>∃X:AV→AHeap→Prop,c8f P E ⟨w0.w,X⟩ ops8 ops8.toList T' H' (fun T2 H2=>G8 P E (b7D w0.w) cy T2 H2 fun ex T3 H3=>b9w (c3Z P E w0 fn fng c2 x y Q (caps.toList.map (o0 T)) .nilIfc T3) ex H3)∧
     ∀v Hx,X v Hx→c3Z P E w0 fn fng c2 x y Q (caps.toList.map (o0 T)) v T' Hx
   |_=>False):
  c3J P E w0 fn Q (.seq (.region i6 #[⟨some d, .makeFunc (.func g) #[] caps,t3,p3,af3,none⟩,⟨none, .defer ⟨.value (.tmp d), #[], #[]⟩,t4,p4,af4,none⟩] false) (.seq cx (.seq (.region i8 ops8 false) cy))) T H:=by
 intro w ρ a R hR hf hT hdf hr
 have hcaps:t9 ρ (caps.toList.map (o0 T)) (caps.map a.eval).toList:=by
  rw[Array.toList_map]
  exact b0P (a4n hT) _
 have hlen:(caps.toList.map (o0 T)).length=caps.size:=by simp
 obtain⟨D,hD⟩:∃D:Deferred,D= { target:= .fn (.func g) (caps.map a.eval),args:= #[] }:=⟨_,rfl⟩
 have hinv:∀w,(invoke D.target D.args).run P w= .ok (.enter g (caps.map a.eval)) w:=fun w=>by
  rw[hD]
  simp[invoke,callFunc,go_sem,hfn,hname,hb]
 have leave:∀ {mode:FrameMode} {v:AV} {T':List AV} {H':AHeap} {ρ':B4} {a':Act} {w':World},((mode= .returning∧v= .nilIfc)∨∃u,mode= .panicking (a6S u)∧rel ρ' v u)→Nx ρ ρ' H H'→G9 E w0 H' w' ρ'→P8 ρ' H'→
   t9 ρ' T' a'.tmps.toList→c3Z P E w0 fn fng c2 x y Q (caps.toList.map (o0 T)) v T' H'→Leaves P fn a'.tmps R [D] mode w':=by
  intro mode v T' H' ρ' a' w' hm hn hR' hf' hT' hC
  have hrun:mode≠ .run:=by rcases hm with ⟨rfl,_⟩|⟨u,rfl,_⟩<;>simp
  have hcall:=c7h hfn hb hres hR' hf' (K9 hn.1 _ _ hcaps) hx (by omega) hm hC
  have hinv':=hinv w'
  rw[hD]at hinv' ⊢
  refine leaves_cons hrun hinv' (hcall.mono ?_)
  rintro _ u' w2 ⟨vv,rfl,hs,ρ2,H2,hG,hn2,hR2⟩
  show Leaves P fn a'.tmps R [] (settle u') w2
  rw[hs]
  exact d1A hG (hn.trans hn2) (K9 hn2.1 _ _ hT') hR2 hr
 have hdt:d<a.tmps.size:=by
  have hl:=w7 hT
  simp only[Array.length_toList]at hl
  omega
 refine wp_seq (wp_region ?_)
 show wpOps P _ _ [0,1] a w
 have e0:(#[]:Array Operand).map a.eval= #[]:=by simp
 have e1:(execOp a.eval ⟨some d, .makeFunc (.func g) #[] caps,t3,p3,af3,none⟩).run P w= .ok (.value (.func (.func g) #[] (caps.map a.eval))) w:=by
  show Result.ok (Next.value (.func (.func g) ((#[]:Array Operand).map a.eval) (caps.map a.eval))) w=_
  rw[e0]
 obtain⟨a1,ha1⟩:∃a1,a1=a.put (some d) (.func (.func g) #[] (caps.map a.eval)):=⟨_,rfl⟩
 have hv1:a1.eval (.tmp d)= .func (.func g) #[] (caps.map a.eval):=by
  rw[ha1]
  simp[Act.eval,Act.put,Array.getD_eq_getD_getElem?]
  intro hle;exfalso;omega
 have e2:(execOp a1.eval ⟨none, .defer ⟨.value (.tmp d), #[], #[]⟩,t4,p4,af4,none⟩).run P w= .ok (.defer D) w:=by
  have:execOp a1.eval ⟨none, .defer ⟨.value (.tmp d), #[], #[]⟩,t4,p4,af4,none⟩=(do pure (.defer (←Deferred.ofValue (a1.eval (.tmp d)) ((#[]:Array Operand).map a1.eval)))):=rfl
  rw[this,hv1,hD]
  simp[Deferred.ofValue,go_sem]
 have hT1:t9 ρ (T.set d (.fn (.func g) [] (caps.toList.map (o0 T)))) a1.tmps.toList:=by
  rw[ha1]
  refine a9o (dst:=some d) hT ?_
  simp only[rel]
  exact⟨_,_,rfl,t8.2 (by simp),hcaps⟩
 have had1:a1.defers=[]:=by rw[ha1,a0r,hdf]
 have hrow:=hT1
 simp only[wpOps,List.getElem?_toArray,List.getElem?_cons_zero,List.getElem?_cons_succ]
 simp only[Region.wanted,if_true]
 refine .inl ?_
 unfold Oper.wp
 rw[e1,Oper.upon_value, ←ha1]
 refine .inl ?_
 rw[e2,Oper.upon_defer,had1]
 obtain⟨a2,ha2⟩:∃a2:Act,a2= { tmps:=a1.tmps,defers:=[D] }:=⟨_,rfl⟩
 show(Code.seq cx (.seq (.region i8 ops8 false) cy)).wp P (bodyPostD P fn R) { a1 with defers:=[D] } w
 have:({ a1 with defers:=[D] }:Act)=a2:=by rw[ha2]
 rw[this]
 have hT2:t9 ρ (T.set d (.fn (.func g) [] (caps.toList.map (o0 T)))) a2.tmps.toList:=by rw[ha2];exact hT1
 have hd2:a2.defers=[D]:=by rw[ha2]
 refine wp_seq (h w ρ a2 _ hR hf hT2 (fun ex T' H' a' w' hq hst=> ?_) fun _ _ _ _ _ _ hx=>hx.elim)
 cases ex with
 |exit id=>exact hq.elim
 |ret=>exact hq.elim
 |normal=>
 obtain⟨ρ',g1,g2,g3,g4,g5⟩:=StA.fresh hst hf
 rw[hd2]at g5
 obtain⟨X,hq⟩:=hq
 refine wp_seq (d2W (ks:=ks) (w0:=⟨w0.w,X⟩) hq.1 hops g4 g2 g3 (fun T2 H2 a3 w3 hq3 hst3=> ?_) fun u v ρ3 H3 a3 w3 h1 h2 h3 h4 h5 h6=> ?_)
 ·obtain⟨ρ3,k1,k2,k3,k4,k5⟩:=StA.fresh hst3 g2
  rw[g5]at k5
  refine hq3 w3 ρ3 a3 _ k4 k2 k3 (fun ex T4 H4 a4 w4 hq4 hst4=> ?_) fun _ _ _ _ _ _ hx=>hx.elim
  obtain⟨ρ4,j1,j2,j3,j4,j5⟩:=StA.fresh hst4 k2
  rw[k5]at j5
  have fin:(ex= .normal∨ex= .ret)→Leaves P fn a4.tmps R a4.defers .returning w4:=fun hex=>by
   rw[j5]
   exact leave (.inl ⟨rfl,rfl⟩) (g1.trans (k1.trans j1)) j4 j2 j3 (by rcases hex with rfl|rfl<;>exact hq4)
  cases ex with
  |normal=>exact fin (.inl rfl)
  |ret=>exact fin (.inr rfl)
  |exit id=>exact hq4.elim
 ·show Leaves P fn a3.tmps R a3.defers (.panicking (a6S u)) w3
  rw[h5,g5]
  obtain⟨T3,r1,r2⟩:=d1D (K9 h2.1 _ _ g3) h6
  refine leave (.inr ⟨u,rfl,h3⟩) (g1.trans h2) h4 (g2.step h2) r1 ((hq.2 v H3 h1).mono fun ex T' H' hq'=> ?_)
  cases ex with
  |normal=>exact a8L r2 hks hq'
  |ret=>exact a8L r2 hks hq'
  |exit id=>exact hq'
end
end
section
section
variable(P:Program)(E:m6)(w0:o3)
def a1i(fn:Func)(Q:D→b7→Prop)(c:Code)(T:List D)(S:b7):Prop:=
 ∀R H avs,L8 H→D5 E R S H→A3 E R T avs→c3J P E (w0.at E R) fn (Q9 E R Q) c avs H
def d6l(fn:Func)(Q:D→b7→Prop)(y:Code)(ex:r4)(T':List D)(S':b7):Prop:=match ex with
 | .normal=>a1i P E w0 fn Q y T' S'
 | .ret=>a3V P S' T' fn.results.toList fun vs=>d9 E Q (b9R vs) S'
 | .exit _=>False
def d2m(fn:Func)(Q:D→b7→Prop)(T:List D)(ex:r4)(S':b7):Prop:=match ex with
 | .exit _=>False
 |_=>a3V P S' T fn.results.toList fun vs=>d9 E Q (b9R vs) S'
def c1x(fn fng:Func)(c2:Code)(x y:Nat)(Q:D→b7→Prop)(caps:List D)(d:D)(T:List D)(S:b7):Prop:=
 k9 P E (b1p w0.w) c2 (((caps++List.replicate (fng.ntmps - caps.length) b8).set x d).set y d) S fun ex _ S'=>d2m P E fn Q T ex S'
def b7l(G:b7→Prop)(ex:r4)(S:b7):Prop:=match ex with
 | .exit _=>False
 |_=>G S
def d4F(fn fng:Func)(c2:Code)(x y:Nat)(Q:D→b7→Prop)(caps:List D)(XD:D→b7→Prop)(ops8:Array Oper)(cy:Code)(ex:r4)(T':List D)(S':b7):Prop:=match ex with
 | .normal=>b8x P (o4 P E ⟨w0.w,XD⟩) (a0S E ⟨w0.w,XD⟩) ops8 ops8.toList T' S' (fun T2 S2=>k9 P E (b1p w0.w) cy T2 S2 fun ex T3 S3=>b7l (c1x P E w0 fn fng c2 x y Q caps .nilIfc T3) ex S3)∧
   ∀e S'',XD e S''→c1x P E w0 fn fng c2 x y Q caps e T' S''
 |_=>False
end
section
variable{P:Program}{E:m6}{w0:o3}
theorem Q9.le{R R1:Fz}(h:R.le R1){Q:D→b7→Prop}{v:AV}{H':AHeap}(hp:Q9 E R1 Q v H'):Q9 E R Q v H':=by
 obtain⟨F,R',S',T',a,b⟩:=hp
 exact⟨F,R',S',T',Fz.le_trans h a,b⟩
theorem c3J.at_le{R R':Fz}(h:R.le R'){fn:Func}{Q:D→b7→Prop}{c:Code}{T:List AV}{H:AHeap}(hf:c3J P E (w0.at E R') fn (Q9 E R' Q) c T H):c3J P E (w0.at E R) fn (Q9 E R Q) c T H:=
 fun w ρ a K hR hf' hT hd hr=>hf w ρ a K hR hf' hT hd fun e w' he=>hr e w' (b3W.weak (o3.at_le h) (he.mono fun v H'=>Q9.le h))
theorem c7l{R R2:Fz}(hle:R.le R2){S2:b7}{H':AHeap}(F:L8 H')(hC:D5 E R2 S2 H'){T2:List D}{T':List AV}(hT:A3 E R2 T2 T'){Q:D→b7→Prop}{l:List ResultVar}(h:a3V P S2 T2 l (fun vs=>d9 E Q (b9R vs) S2)):
  R9 P E H' T' l fun vs=>Q9 E R Q (b3y vs) H':=a8C hC hT (fun ds vs hr hK=>by
 obtain⟨R',S',d',k1,k2,k3,k4⟩:=hK R2 H' _ hC (c8W hr)
 exact⟨F,R',S',d',Fz.le_trans hle k1,k2,k3,k4⟩) h
theorem d0l{fn:Func}{Q:D→b7→Prop}{x y:Code}{T:List D}{S:b7}(h:k9 P E w0 x T S (d6l P E w0 fn Q y)):a1i P E w0 fn Q (.seq x y) T S:=fun R H avs F hC hT=>
 d2h ((h R H avs F hC hT).mono fun ex T' H' hq=>by
  obtain⟨F2,R2,S2,T2,a2,b2,c2,d2,e2⟩:=hq
  cases ex with
  |normal=>exact c3J.at_le a2 (e2 R2 H' T' F2 b2 c2)
  |ret=>exact c7l a2 F2 b2 c2 e2
  |exit id=>exact e2)
theorem c8b{f:FuncId}{fn:Func}{c:Code}(hfn:P.funcs[f]? =some fn)(hb:fn.body=some c){ds:List D}{S:b7}{Q:D→b7→Prop}
  (h:a1i P E w0 fn Q c (ds++List.replicate (fn.ntmps - ds.length) b8) S):o4 P E w0 f ds S Q:=fun R H avs F hC ha=>by
 have hrow:A3 E R (ds++List.replicate (fn.ntmps - ds.length) b8) (avs++List.replicate (fn.ntmps - avs.length) A0):=by
  refine ha.append ?_
  rw[ha.length]
  generalize fn.ntmps - ds.length=m
  induction m with
  |zero=>exact G4
  |succ m ih=>exact A2 a2G ih
 exact d2E hfn hb (h R H _ F hC hrow)
theorem k9.calm{w:World}{c:Code}{T:List D}{S:b7}{Q:r4→List D→b7→Prop}(h:k9 P E (b1p w) c T S Q){R:Fz}{H:AHeap}{avs:List AV}(F:L8 H)(hC:D5 E R S H)(hT:A3 E R T avs):G8 P E (b7D w) c avs H (d1G E R T.length Q):=
 G8.weak (w:=w) (fun v H ⟨_,_,_,_,_,_,_,hf⟩=>hf.elim) (h R H avs F hC hT)
theorem c0s{R0 R:Fz}(hle:R0.le R){fn fng:Func}{c2:Code}{x y:Nat}{Q:D→b7→Prop}{caps:List D}{capsA:List AV}{d:D}{v:AV}{T:List D}{avs:List AV}{S:b7}{H:AHeap}(F:L8 H)(hC:D5 E R S H)(hc:A3 E R caps capsA)(hd:Rp E R d v)(hT:A3 E R T avs)
  (h:c1x P E w0 fn fng c2 x y Q caps d T S):c3Z P E (w0.at E R0) fn fng c2 x y (Q9 E R0 Q) capsA v avs H:=by
 have hrow:A3 E R (((caps++List.replicate (fng.ntmps - caps.length) b8).set x d).set y d) (((capsA++List.replicate (fng.ntmps - capsA.length) A0).set x v).set y v):=by
  refine A3.set (A3.set (hc.append ?_) x hd) y hd
  rw[hc.length]
  generalize fng.ntmps - caps.length=m
  induction m with
  |zero=>exact G4
  |succ m ih=>exact A2 a2G ih
 refine(k9.calm h F hC hrow).mono fun ex T' H' hq=> ?_
 obtain⟨F2,R2,S2,T2,a2,b2,c2,d2,e2⟩:=hq
 cases ex with
 |exit id=>exact e2
 |normal=>exact c7l (Fz.le_trans hle a2) F2 b2 (A3.le a2 _ _ hT) e2
 |ret=>exact c7l (Fz.le_trans hle a2) F2 b2 (A3.le a2 _ _ hT) e2
theorem c6b{g:FuncId}{fn fng:Func}{c2:Code}{x y:Nat}{id:Nat}{t1 t2:TypeId}{p1 p2:String}{af1 af2:Array Edge}
  (hfn:P.funcs[g]? =some fng) (hb:fng.body=some (.seq (.region id #[⟨some x, .call ⟨.builtin .recover, #[], #[]⟩,t1,p1,af1,none⟩,⟨some y, .assign (.tmp x),t2,p2,af2,none⟩] false) c2)) (hres:fng.results= #[]) (hname:fng.name≠"runtime.NumGoroutine")
  {Q:D→b7→Prop} {ks:List Tmp} (hks:∀r∈fn.results.toList,∃a t,r= .cell a t∧a∈ks) {d:Nat} {caps:Array Operand} (hx:x<fng.ntmps) (hcx:caps.size≤x)
  {i6 i8:Nat} {t3 t4:TypeId} {p3 p4:String} {af3 af4:Array Edge} {ops8:Array Oper} (hops:∀o∈ops8.toList,∀d,o.dst=some d→d ∉ ks) {cx cy:Code} {T:List D} (hd:d<T.length) {S:b7} (XD:D→b7→Prop)
  (h:k9 P E (b1p w0.w) cx (T.set d .any) S (d4F P E w0 fn fng c2 x y Q (caps.toList.map (B0 T)) XD ops8 cy)):
  a1i P E w0 fn Q (.seq (.region i6 #[⟨some d, .makeFunc (.func g) #[] caps,t3,p3,af3,none⟩,⟨none, .defer ⟨.value (.tmp d), #[], #[]⟩,t4,p4,af4,none⟩] false) (.seq cx (.seq (.region i8 ops8 false) cy))) T S:=fun R H avs F hC hT=>by
 refine c7G hfn hb hres hname hks hx hcx hops (by rw[hT.length];exact hd) ((k9.calm h F hC (hT.set d b3G)).mono fun ex T' H' hq=> ?_)
 obtain⟨F2,R2,S2,T2,a2,b2,c2',d2,e2⟩:=hq
 have hcaps:A3 E R2 (caps.toList.map (B0 T)) (caps.toList.map (o0 avs)):=A3.le a2 _ _ (a4m hT _)
 cases ex with
 |exit id=>exact e2
 |ret=>exact e2
 |normal=>
  refine⟨((⟨w0.w,XD⟩:o3).at E R2).X,b9l (b2H (fun T3 H3 hq3=> ?_) (c7z (w0:=⟨w0.w,XD⟩) (Fz.le_refl R2) F2 b2 c2' e2.1)),fun v Hx hX=> ?_⟩
  ·obtain⟨F3,R3,S3,T3',a3,b3,c3,d3,e3⟩:=hq3
   refine(k9.calm e3 F3 b3 c3).mono fun ex T4 H4 hq4=> ?_
   obtain⟨F4,R4,S4,T4',a4,b4,c4,d4,e4⟩:=hq4
   have hle:R.le R4:=Fz.le_trans a2 (Fz.le_trans a3 a4)
   cases ex with
   |exit id=>exact e4
   |normal=>exact c0s hle F4 b4 (A3.le (Fz.le_trans a3 a4) _ _ hcaps) (by simp only[Rp]) c4 e4
   |ret=>exact c0s hle F4 b4 (A3.le (Fz.le_trans a3 a4) _ _ hcaps) (by simp only[Rp]) c4 e4
  ·obtain⟨Fx,Rx,Sx,dx,ax,bx,cx',ex'⟩:=hX
   exact c0s (Fz.le_trans a2 ax) Fx bx (A3.le ax _ _ hcaps) cx' (A3.le ax _ _ c2') (e2.2 dx Sx ex')
end
end
end Go.Am
end
