/-
  ImageOnceSaid: part Nav of its proof.
-/
import Derived.Test.YtchnpgddpaonhaaNat
import Derived.Test.YtchnpgddpaonhaaNau
set_option linter.unusedVariables false
set_option linter.unusedSimpArgs false
set_option maxRecDepth 100000
section
open Go.Proofs Go Go.Am Go.Op
namespace Go.Proofs.Ytchnpgddpaonhaa.d
section
def rdC(bs:List Int)(s:Nat×Int):List D:=[bD bs, .int .i64 (s.1:Int), .int .i64 s.2]
theorem d3R{s:Nat}(h:s<8):(2:Nat)^(8*s)≤2^56:=Nat.pow_le_pow_right (by decide) (by omega)
section
variable{E:l9}{w0:o0}
theorem c4z{bs:List Int}(hb:∀b∈bs,M3 b)(hl:bs.length<2^60){s:Nat×Int}(hs:s.1≤bs.length){row:List D}{f:Fld}(hf:b9Z row f)(h1:1≤f.size)(h8:f.size≤8){S:b7}{k:Nat}{acs:List AV}(hk:S k=some ⟨3,[rdC bs s],acs⟩):
  n9 Try.prog E w0 B5 [.ptr k 0, .agg row] S fun v S'=>v= .int .i64 (G5 bs f s).1∧∃acs',S'=S.set k ⟨3,[rdC bs (G5 bs f s).2],acs'⟩:=by
 obtain⟨fv,rfl,hm⟩:=hf
 refine b0H ?_
 unfold a6y
 rw[clA,oD]
 intro k0 a0 n0
 have d:k≠k0:=b7.ne_of hk n0
 generalize hS1:S.set k0 _=S1
 have bk:S1 k=some ⟨3,[rdC bs s],acs⟩:=by rw[←hS1,b7.set_ne _ _ _ d];exact hk
 have b0:S1 k0=some ⟨2,[[.int .i64 (f.size:Int),fv]],a0⟩:=by rw[←hS1];exact b7.set_same _ _ _
 have drop:∀ {o:L2} {Q:D→b7→Prop} {v:D},d8 E Q v (S.set k o)→d8 E Q v (S1.set k o):=fun{o Q v} h=>by
  rw[←hS1,b7.set_comm _ (Ne.symm d)]
  exact d8.drop (by rw[b7.set_ne _ _ _ (Ne.symm d)];exact n0) h
 have l2:c9 S1 (.ptr k 2)=some (.int .i64 s.2):=ldP bk
 have l1:c9 S1 (.ptr k 1)=some (.int .i64 (s.1:Int)):=ldP bk
 have l0:c9 S1 (.ptr k 0)=some (bD bs):=ldP bk
 have m0:c9 S1 (.ptr k0 0)=some (.int .i64 (f.size:Int)):=ldP b0
 have m1:c9 S1 (.ptr k0 1)=some fv:=ldP b0
 simp only[ndP,I4,oD,Nat.zero_add,l2,l1,l0,m0,b6h]
 rw[d0U,O4]
 refine⟨fun he=> ?_,fun he=> ?_⟩
 ·rw[c7P he, ←hS1]
  exact d8.drop n0 (d8.here ⟨rfl,acs,(b7.set_self hk).symm⟩)
 have he:s.2=0:=Classical.not_not.1 he
 refine(a8p hb hl hs h1 h8).use ?_
 have hset:∀n m:Int,o5 (rdC bs (s.1,n)) 2 [.int .i64 m]=rdC bs (s.1,m):=fun _ _=>rfl
 have hset1:∀m:Nat,o5 (rdC bs s) 1 [.int .i64 (m:Int)]=rdC bs (m,s.2):=fun _=>rfl
 by_cases hsh:bs.length<s.1+f.size
 ·rw[if_pos hsh]
  have e:G5 bs f s=(0,s.1,10):=by unfold G5;rw[if_neg (by simp[he]),if_pos hsh]
  simp only[exD,List.getElem?_cons_zero,List.getElem?_cons_succ,oD,b6h]
  rw[show((10:Int) != 0)=true from rfl,cdT]
  refine stP bk (clI _ _) ⟨rfl,by decide,by simp[rdC]⟩ fun acs'=>drop (d8.here ?_)
  rw[e]
  exact⟨rfl,acs',rfl⟩
 rw[if_neg hsh]
 simp only[exD,List.getElem?_cons_zero,List.getElem?_cons_succ,oD,b6h,cvI]
 rw[show((0:Int) != 0)=false from rfl,cdF]
 obtain⟨u,hu⟩:∃u,u=leN ((bs.drop s.1).take f.size):=⟨_,rfl⟩
 have hur:G5 bs f s=match rdN f u with|some n=>(n,s.1+f.size,0)|none=>(0,s.1,120):=by
  unfold G5;rw[if_neg (by simp[he]),if_neg hsh, ←hu]
  cases rdN f u<;>rfl
 have hult:u<2^(8*f.size):=by
  rw[hu]
  have hbs:∀b∈(bs.drop s.1).take f.size,M3 b:=fun b hb'=>hb b (List.mem_of_mem_drop (List.mem_of_mem_take hb'))
  have:=b1y hbs
  rwa [show((bs.drop s.1).take f.size).length=f.size by rw[List.length_take,List.length_drop];omega]at this
 rw[←hu]
 obtain⟨n,hn⟩:∃n,n=IntKind.i64.wrap (u:Int):=⟨_,rfl⟩
 have hn64:I64 n:=by rw[hn];exact c4D _
 rw[←hn,m1,oD]
 have tail:∀n':Int,I64 n'→n'=(if f.may n=false∧f.size<8 then n - 2^(8*f.size) else n)→K5 E w0 (d8 E fun v S'=>v= .int .i64 (G5 bs f s).1∧∃acs',S'=S.set k ⟨3,[rdC bs (G5 bs f s).2],acs'⟩) (.ptr k 0) (.ptr k0 0) (.int .i64 ((s.1+f.size:Nat):Int)) (.int .i64 n') S1:=fun n' hn' he'=>by
  refine a7O ?_
  unfold a4b
  simp only[I4,oD,Nat.zero_add,m1]
  refine c0z hm hn' ?_
  rw[unN,oD]
  have hrd:rdN f u=if f.may n'=true then some n' else none:=by
   unfold rdN;simp only;rw[←hn, ←he']
  have hmm:decide (f.lo≤n'∧n'≤f.hi)=f.may n':=rfl
  rw[hmm,cdB]
  refine⟨fun hf=> ?_,fun hf=> ?_⟩
  ·have hf:f.may n'=false:=by simpa using hf
   rw[hf,if_neg (by decide)]at hrd
   rw[hrd]at hur
   simp only[ndP,I4,oD,Nat.zero_add]
   refine stP bk (clI _ _) ⟨rfl,by decide,by simp[rdC]⟩ fun acs'=>drop (d8.here ?_)
   rw[hur]
   exact⟨rfl,acs',rfl⟩
  ·have hf:f.may n'=true:=by simpa using hf
   rw[if_pos hf]at hrd
   rw[hrd]at hur
   simp only[ndP,I4,oD,Nat.zero_add]
   refine stP bk (clI _ _) ⟨rfl,by decide,by simp[rdC]⟩ fun acs'=>drop (d8.here ?_)
   rw[hur,hset1,he]
   exact⟨rfl,acs',rfl⟩
 refine c0z hm hn64 ?_
 have hmm:decide (f.lo≤n∧n≤f.hi)=f.may n:=rfl
 rw[hmm,unN,oD]
 have e8:decide ((f.size:Int)<8)=decide (f.size<8):=decide_eq_decide.2 (by omega)
 have key:(a9 (d9 .mul (.int .i64 8) (.int .i64 (f.size:Int))) fun v49=>a9 (d9 .shl (.int .i64 1) v49) fun v50=>a9 (d9 .sub (.int .i64 n) v50) fun v51=>K5 E w0 (d8 E fun v S'=>v= .int .i64 (G5 bs f s).1∧∃acs',S'=S.set k ⟨3,[rdC bs (G5 bs f s).2],acs'⟩) (.ptr k 0) (.ptr k0 0) (.int .i64 ((s.1+f.size:Nat):Int)) v51 S1)∨¬(f.may n=false∧f.size<8):=by
  by_cases hc:f.may n=false∧f.size<8
  ·left
   have h56:=d3R hc.2
   have hnu:n=u:=by rw[hn];exact o3 (by omega) (by omega)
   rw[c7u,oD,o3 (by omega) (by omega),d1D _ _ _ _ (by omega),oD]
   have e1:min (8*(f.size:Int)).toNat IntKind.i64.bits=8*f.size:=by
    have:IntKind.i64.bits=64:=rfl
    omega
   have e2:(1:Int)*2^(8*f.size)=((2^(8*f.size):Nat):Int):=by rw[Int.one_mul];exact_mod_cast rfl
   rw[e1,e2,o3 (by omega) (by omega),a9J,oD,o3 (by omega) (by omega)]
   refine tail _ ⟨by omega,by omega⟩ ?_
   rw[if_pos hc]
   congr 1
  ·exact .inr hc
 cases hmn:f.may n with
 |true=>
  simp only[Bool.not_true,wdB,vdF,oD,pdB,Bool.false_eq_true,if_false,cdF,show((false==true)=false) from rfl]
  exact tail n hn64 (by rw[if_neg (by rw[hmn];simp)])
 |false=>
  simp only[Bool.not_false,wdB,vdT,oD,pdB,if_true,show((true==true)=true) from rfl,m0,M9,e8]
  rw[O4]
  refine⟨fun h=> ?_,fun h=> ?_⟩
  ·exact key.resolve_right fun hc=>hc ⟨hmn,h⟩
  ·exact tail n hn64 (by rw[if_neg (fun hc=>h hc.2)])
end
end
section
def zC:List D:=[.int .u8 0, .int .i64 0, .int .i64 0, .nilSlc]
def a0H(op a b:Int)(t:D):List D:=[.int .u8 op, .int .i64 a, .int .i64 b,t]
def c2R(r:Dat×(Nat×Int))(t:D):D:= .tup [.agg (a0H r.1.1 r.1.2.1 r.1.2.2.1 t), .int .i64 (r.2.1:Int), .int .i64 r.2.2]
section
variable{E:l9}{w0:o0}
theorem c7e{Q:D→b7→Prop}{S:b7}{k4 k7 k10:Nat}{c4:List D}{op a b:Int}{t:D}{bs:List Int}{s:Nat×Int}(h4:w5 S k4 4 c4)(h7:w5 S k7 4 (a0H op a b t))(h10:w5 S k10 3 (rdC bs s))(l4:c4.length=4)(ht:r4 t=some [t])
  (hQ:∀S',(∀j,j≠k4→S' j=S j)→d8 E Q (if s.2=0 then .tup [.agg (a0H op a b t), .int .i64 (s.1:Int), .int .i64 0]else .tup [.agg zC, .int .i64 0, .int .i64 s.2]) S'):a0h E w0 (d8 E Q) (.ptr k4 0) (.ptr k7 0) (.ptr k10 0) S:=by
 refine b3M ?_
 unfold a9B
 have e410:k10≠k4:=h10.ne h4 (by decide)
 have ld2:(rdC bs s)[2]? =some (.int .i64 s.2):=rfl
 have ld1:(rdC bs s)[1]? =some (.int .i64 (s.1:Int)):=rfl
 simp only[ndP,I4,oD,Nat.zero_add,h10.ld,ld2,ld1,b6h,fiN,agS]
 rw[d0U,O4]
 refine⟨fun he=> ?_,fun he=> ?_⟩
 ·refine h4.st (clA _) ⟨rfl,by decide,by omega⟩ fun a4=>⟨by rw[fwP,b7.set_ne _ _ _ e410], ?_⟩
  have hs:o5 c4 0 [D.int .u8 0, .int .i64 0, .int .i64 0, .nilSlc]=zC:=by
   match c4,l4 with
   | [_,_,_,_],_=>rfl
  rw[hs,(w5.new).all (n:=4) (by decide) rfl,oD]
  have:=hQ (S.set k4 ⟨4,[zC],a4⟩) (fun j hj=>b7.set_ne _ _ _ hj)
  rw[if_neg he]at this
  exact this
 ·rw[h7.all (n:=4) (by decide) rfl,oD]
  refine h4.st (ds:=a0H op a b t) (clA _) ⟨rfl,by decide,by omega⟩ fun a4=>⟨by rw[fwP,b7.set_ne _ _ _ e410], ?_⟩
  have hs:o5 c4 0 (a0H op a b t)=a0H op a b t:=by
   match c4,l4 with
   | [_,_,_,_],_=>rfl
  rw[hs,(w5.new).all (n:=4) (by decide) rfl,oD]
  have:=hQ (S.set k4 ⟨4,[a0H op a b t],a4⟩) (fun j hj=>b7.set_ne _ _ _ hj)
  rw[if_pos (Classical.not_not.1 he)]at this
  exact this
structure a0A (S:b7) (k4 k7 k10:Nat) (c7:List D) (bs:List Int) (s:Nat×Int) (S':b7):Prop where
 le:S.le S'
 n4:S k4=none
 n7:S k7=none
 n10:S k10=none
 d47:k4≠k7
 h4:w5 S' k4 4 zC
 h7:w5 S' k7 4 c7
 h10:w5 S' k10 3 (rdC bs s)
section
variable{S S':b7}{k4 k7 k10:Nat}{c7:List D}{bs:List Int}{s:Nat×Int}
theorem a0A.d410(h:a0A S k4 k7 k10 c7 bs s S'):k4≠k10:=h.h4.ne h.h10 (by decide)
theorem a0A.d710(h:a0A S k4 k7 k10 c7 bs s S'):k7≠k10:=h.h7.ne h.h10 (by decide)
theorem a0A.set7(h:a0A S k4 k7 k10 c7 bs s S'){c:List D}{a:List AV}:a0A S k4 k7 k10 c bs s (S'.set k7 ⟨4,[c],a⟩):=
 ⟨b7.le_set h.le h.n7,h.n4,h.n7,h.n10,h.d47,h.h4.set_ne h.d47,w5.new,h.h10.set_ne (Ne.symm h.d710)⟩
theorem a0A.set10(h:a0A S k4 k7 k10 c7 bs s S'){s':Nat×Int}{a:List AV}:a0A S k4 k7 k10 c7 bs s' (S'.set k10 ⟨3,[rdC bs s'],a⟩):=
 ⟨b7.le_set h.le h.n10,h.n4,h.n7,h.n10,h.d47,h.h4.set_ne h.d410,h.h7.set_ne h.d710,w5.new⟩
theorem a0A.new(h:a0A S k4 k7 k10 c7 bs s S'){k:Nat}{o:L2}(hk:S' k=none):a0A S k4 k7 k10 c7 bs s (S'.set k o):=
 ⟨b7.le_set h.le (b7.none_of h.le hk),h.n4,h.n7,h.n10,h.d47,h.h4.set hk,h.h7.set hk,h.h10.set hk⟩
theorem a0A.of(h:a0A S k4 k7 k10 c7 bs s S'){S2:b7}(hl:S.le S2)(e:∀j∈[k4,k7,k10],S2 j=S' j):a0A S k4 k7 k10 c7 bs s S2:=
 ⟨hl,h.n4,h.n7,h.n10,h.d47,h.h4.of (e _ (by simp)),h.h7.of (e _ (by simp)),h.h10.of (e _ (by simp))⟩
end
theorem b9Z.len{row:List D}{f:Fld}(h:b9Z row f):row.length=2:=by obtain⟨fv,rfl,_⟩:=h;rfl
theorem d1b{row:List D}{f:Fld}(h:b9Z row f):o5 [D.int .i64 0, .nilFn] 0 row=row:=by obtain⟨fv,rfl,_⟩:=h;rfl
theorem a7z{S S':b7}{k4 k7 k10:Nat}{c7:List D}{bs:List Int}{s:Nat×Int}(h:a0A S k4 k7 k10 c7 bs s S')(hb:∀b∈bs,M3 b)(hl:bs.length<2^60)(hs:s.1≤bs.length){row:List D}{f:Fld}(hf:b9Z row f)(h1:1≤f.size)(h8:f.size≤8):
  n9 Try.prog E w0 B5 [.ptr k10 0, .agg row] S' fun v S2=>v= .int .i64 (G5 bs f s).1∧a0A S k4 k7 k10 c7 bs (G5 bs f s).2 S2∧∀j,j≠k10→S2 j=S' j:=by
 obtain⟨a,e⟩:=h.h10
 refine(c4z hb hl hs hf h1 h8 e).use fun v S2 ⟨e1,a',e2⟩=>⟨e1, ?_, ?_⟩
 ·rw[e2];exact h.set10
 ·rw[e2];exact fun j hj=>b7.set_ne _ _ _ hj
theorem d0E(bs:List Int)(f:Fld)(s:Nat×Int):(G5 bs f s).1=0∨f.may (G5 bs f s).1=true:=by
 unfold G5
 split
 ·exact .inl rfl
 split
 ·exact .inl rfl
 ·split
  ·rename_i m hm
   unfold rdN at hm
   simp only[Option.ite_none_right_eq_some,Option.some.injEq]at hm
   obtain⟨h1,h2⟩:=hm
   right;rw[←h2];exact h1
  ·exact .inl rfl
theorem d1S{Q:D→b7→Prop}{S:b7}{k4 k7 k10 k13 k14:Nat}{op a:Int}{bs:List Int}{s:Nat×Int}{S':b7}(hb:∀b∈bs,M3 b)(hl:bs.length<2^30)(h:a0A S k4 k7 k10 (a0H op a 0 .nilSlc) bs s S')(hs:s.1≤bs.length)
  (h13:w5 S' k13 2 [.int .i64 4,a0c 0 4294967295]) (h14:w5 S' k14 2 [.int .i64 8,a6m (IntKind.u8.wrap a)]) (n13:S k13=none) (n14:S k14=none) (d7:k7≠k13∧k7≠k14)
  (hQ:∀t S',Grw S t ((a7p bs op a s).1.2.2.2.map a2g) 2 S'→d8 E Q (if(a7p bs op a s).2.2=0 then .tup [.agg (a0H op a (a7p bs op a s).1.2.2.1 t), .int .i64 ((a7p bs op a s).2.1:Int), .int .i64 0]else .tup [.agg zC, .int .i64 0, .int .i64 (a7p bs op a s).2.2]) S'):
  t8 E w0 (d8 E Q) (.ptr k4 0) (.ptr k7 0) (.ptr k10 0) (.ptr k13 0) (.ptr k14 0) S':=by
 refine b3q ?_
 unfold a9F
 refine E9.use ?_
 rw[a3X (b2H _ _),oD]
 have hl60:bs.length<2^60:=by omega
 refine(a7z h hb hl60 hs (row:=[.int .i64 2,a0c 0 65535]) (f:=fIx) ⟨_,rfl,b8i.bet _ _⟩ (by decide) (by decide)).use ?_
 rintro v S2 ⟨rfl,h2,ke⟩
 have hs2:=c3q (f:=fIx) hs
 have hn0:0≤(G5 bs fIx s).1∧(G5 bs fIx s).1≤65535:=by
  rcases d0E bs fIx s with h|h
  ·omega
  ·exact of_decide_eq_true h
 have e13:k13≠k10:=h13.ne h.h10 (by decide)
 have e14:k14≠k10:=h14.ne h.h10 (by decide)
 have h13:=h13.of (ke _ e13)
 have h14:=h14.of (ke _ e14)
 obtain⟨N,hN⟩:∃N:Nat,(G5 bs fIx s).1=(N:Int):=⟨(G5 bs fIx s).1.toNat,by omega⟩
 have hdec:a7p bs op a s=((op,a,(G5 bs P7 (P0 bs (IntKind.u8.wrap a) N (G5 bs fIx s).2 []).2).1,(P0 bs (IntKind.u8.wrap a) N (G5 bs fIx s).2 []).1),(G5 bs P7 (P0 bs (IntKind.u8.wrap a) N (G5 bs fIx s).2 []).2).2):=by
  unfold a7p;rw[hN];rfl
 rw[hN]
 refine b4U (I:=fun n x4 x7 x10 x13 x14 x15 T=>x4= .ptr k4 0∧x7= .ptr k7 0∧x10= .ptr k10 0∧x13= .ptr k13 0∧x14= .ptr k14 0∧x15= .int .i64 (n:Int)∧n≤N∧∃(s':Nat×Int) (acc:List (Int×Int)) (t:D),a0A S k4 k7 k10 (a0H op a 0 t) bs s' T∧s'.1≤bs.length∧
   w5 T k13 2 [.int .i64 4,a0c 0 4294967295]∧w5 T k14 2 [.int .i64 8,a6m (IntKind.u8.wrap a)]∧GrA S [k4,k7,k10,k13,k14] t (acc.map a2g) 2 T∧acc.length+n=N∧P0 bs (IntKind.u8.wrap a) n s' acc=P0 bs (IntKind.u8.wrap a) N (G5 bs fIx s).2 []) ?_ (n:=N)
  ⟨rfl,rfl,rfl,rfl,rfl,rfl,Nat.le_refl _,_,[], .nilSlc,h2,hs2,h13,h14,GrA.nil,by simp,rfl⟩
 rintro n _ _ _ _ _ _ T ⟨rfl,rfl,rfl,rfl,rfl,rfl,hnN,s',acc,t,hd,hs',g13,g14,hg,hacc,hrd⟩
 unfold a5M
 have ld2:c9 T (.ptr k10 2)=some (.int .i64 s'.2):=hd.h10.ld 2
 have fin:(n=0∨s'.2≠0)→(a9 (i9 T 2 (.ptr k13 0)) fun v107=>n9 Try.prog E w0 B5 [.ptr k10 0,v107] T fun v108 S109=>a9 (m7 2 (.ptr k7 0)) fun v110=>f0 S109 1 v110 v108 fun v111 S112=>a0h E w0 (d8 E Q) (.ptr k4 0) (.ptr k7 0) (.ptr k10 0) S112):=fun hend=>by
  have hrd':P0 bs (IntKind.u8.wrap a) N (G5 bs fIx s).2 []=(acc,s'):=by
   rw[←hrd]
   rcases hend with rfl|h
   ·rfl
   ·exact c0A h
  rw[hrd']at hdec
  rw[g13.all (n:=2) (by decide) rfl,oD]
  refine(a7z hd hb hl60 hs' (row:=[.int .i64 4,a0c 0 4294967295]) (f:=P7) ⟨_,rfl,b8i.bet _ _⟩ (by decide) (by decide)).use ?_
  rintro v T2 ⟨rfl,hd2,ke2⟩
  rw[I4,oD]
  refine hd2.h7.st (clI _ _) ⟨rfl,by decide,by simp[a0H]⟩ fun a7=> ?_
  have hd3:=hd2.set7 (c:=a0H op a (G5 bs P7 s').1 t) (a:=a7)
  have hg3:GrA S [k4,k7,k10,k13,k14] t (acc.map a2g) 2 (T2.set k7 ⟨4,[a0H op a (G5 bs P7 s').1 t],a7⟩):=(hg.of fun k o hk e=>by rw[ke2 k (fun e=>hk (by simp[e]))];exact e).set (.inl (by simp))
  refine c7e hd3.h4 hd3.h7 hd3.h10 rfl hg.cells fun S'' hS''=> ?_
  have hg4:GrA S [k4,k7,k10,k13,k14] t (acc.map a2g) 2 S'':=hg3.of fun k o hk e=>by rw[hS'' k (fun e=>hk (by simp[e]))];exact e
  have hle:S.le S'':=fun j o e=>by rw[hS'' j (fun e'=>by rw[e',hd.n4]at e;cases e)];exact hd3.le _ _ e
  obtain⟨S3,l3,g3⟩:=hg4.grw hle
  refine d8.less l3 ?_
  have:=hQ t S3 (by rw[hdec];exact g3)
  rw[hdec]at this
  exact this
 simp only[a3f,oD,ndP,I4,Nat.zero_add,ld2,a1Q]
 by_cases h0:n=0
 ·subst h0
  simp only[Int.natCast_zero,gt_iff_lt,Int.lt_irrefl,decide_false,wdB,vdF,oD,pdB,Bool.false_eq_true,if_false,cdF,show((false==true)=false) from rfl]
  exact fin (.inl rfl)
 have hpos:decide ((n:Int)>0)=true:=decide_eq_true (by omega)
 simp only[hpos,wdB,vdT,oD,pdB,if_true,show((true==true)=true) from rfl,ndP,I4,Nat.zero_add,ld2,a1Q]
 rw[cdB]
 refine⟨fun h0'=> ?_,fun h0'=> ?_⟩
 ·have hs0:s'.2=0:=by simpa using h0'
  rw[g14.all (n:=2) (by decide) rfl,oD]
  refine(a7z hd hb hl60 hs' (row:=[.int .i64 8,a6m (IntKind.u8.wrap a)]) (f:=vF (IntKind.u8.wrap a)) ⟨_,rfl,b8i.fit _⟩ (by show 1≤8;decide) (by show 8≤8;decide)).use ?_
  rintro v T2 ⟨rfl,hd2,ke2⟩
  have hs2':=c3q (f:=vF (IntKind.u8.wrap a)) hs'
  have f13:=g13.of (ke2 _ e13)
  have f14:=g14.of (ke2 _ e14)
  have ld3:c9 T2 (.ptr k7 3)=some t:=hd2.h7.ld 3
  rw[ld3,oD]
  rw[f13.all (n:=2) (by decide) rfl,oD]
  refine(a7z hd2 hb hl60 hs2' (row:=[.int .i64 4,a0c 0 4294967295]) (f:=P7) ⟨_,rfl,b8i.bet _ _⟩ (by decide) (by decide)).use ?_
  rintro v T3 ⟨rfl,hd3,ke3⟩
  have k7e:T3 k7=T2 k7:=ke3 _ hd.d710
  refine⟨by rw[fwP,k7e], ?_⟩
  have hfa:E0 (u6 [D.int .i64 0, .int .i64 0] [(0,1, .int .i64 (G5 bs (vF (IntKind.u8.wrap a)) s').1),(1,1, .int .i64 (G5 bs P7 (G5 bs (vF (IntKind.u8.wrap a)) s').2).1)])=some (.agg (a2g ((G5 bs (vF (IntKind.u8.wrap a)) s').1,(G5 bs P7 (G5 bs (vF (IntKind.u8.wrap a)) s').2).1))):=rfl
  rw[hfa,oD]
  refine O7 (rows:=[a2g _]) rfl ⟨by rw[fwP,k7e], ?_⟩
  have hg2:GrA S [k4,k7,k10,k13,k14] t (acc.map a2g) 2 T2:=hg.of fun k o hk e=>by rw[ke2 k (fun e=>hk (by simp[e]))];exact e
  have hg3:GrA S [k4,k7,k10,k13,k14] t (acc.map a2g) 2 T3:=hg2.of fun k o hk e=>by rw[ke3 k (fun e=>hk (by simp[e]))];exact e
  have q13:=f13.of (ke3 _ e13)
  have q14:=f14.of (ke3 _ e14)
  refine hg3.push hd3.le (fun j hj=> ?_) (news:=[a2g ((G5 bs (vF (IntKind.u8.wrap a)) s').1,(G5 bs P7 (G5 bs (vF (IntKind.u8.wrap a)) s').2).1)]) (by simp[rowsS,K7]) (by simp) (by simp;omega) fun t' T4 hle4 he4 hg4=> ?_
  ·simp only[List.mem_cons,List.not_mem_nil,or_false]at hj
   rcases hj with rfl|rfl|rfl|rfl|rfl
   ·exact hd3.h4.there
   ·exact hd3.h7.there
   ·exact hd3.h10.there
   ·exact q13.there
   ·exact q14.there
  have hd4:a0A S k4 k7 k10 (a0H op a 0 t) bs _ T4:=hd3.of hle4 fun j hj=>he4 j (by simp only[List.mem_cons,List.not_mem_nil,or_false]at hj ⊢;rcases hj with rfl|rfl|rfl<;>simp)
  refine hd4.h7.st (hg4.cells) ⟨rfl,by decide,by simp[a0H]⟩ fun a7=> ?_
  rw[a9J,oD,o3 (by omega) (by omega)]
  obtain⟨m,rfl⟩:∃m,n=m+1:=⟨n - 1,by omega⟩
  rw[P0,if_neg (by simpa using hs0)]at hrd
  refine⟨m,by omega,by trivial,by trivial,by trivial,by trivial,by trivial,by congr 1;omega,by omega,_,acc++[_],t',hd4.set7 (c:=a0H op a 0 t'),c3q hs2', ?_, ?_, ?_,by simp;omega,hrd⟩
  ·exact(q13.of (he4 _ (by simp))).set_ne (Ne.symm d7.1)
  ·exact(q14.of (he4 _ (by simp))).set_ne (Ne.symm d7.2)
  ·rw[List.map_append]
   exact hg4.set (.inl (by simp))
 ·exact fin (.inr (by simpa using h0'))
end
end
section
section
variable{E:l9}{w0:o0}
theorem d3U(T:b7){k l:Nat}(h:k≠l)(z z' A B:L2):(((T.set k z).set l z').set k A).set l B=(T.set k A).set l B:=by
 rw[b7.set_in _ h,b7.set_set]
theorem d3Y(T:b7){k l:Nat}(h:k≠l)(z z' A B:L2):(((T.set k z).set l z').set l B).set k A=(T.set k A).set l B:=by
 rw[b7.set_set,b7.set_in _ h]
theorem c6v{bs:List Int}{j:Nat}{a b:Int}{s:Nat×Int}{f:Fld}{l:List Fld}(h:l[j]? =some f):b9O bs j a b s (l.drop j)=b9O bs (j+1) (if j=0 then(G5 bs f s).1 else a) (if j=0 then b else(G5 bs f s).1) (G5 bs f s).2 (l.drop (j+1)):=by
 obtain⟨hj,rfl⟩:=List.getElem?_eq_some_iff.1 h
 rw[List.drop_eq_getElem_cons hj,b9O]
theorem b9A{bs:List Int}(hb:∀b∈bs,M3 b)(hl:bs.length<2^30){n:Int}{S:b7}:n9 Try.prog E w0 a4A [bD bs, .int .i64 n] S fun v S'=>∃t,v=c2R (G7 bs n) t∧Grw S t ((G7 bs n).1.2.2.2.map a2g) 2 S':=by
 refine b7W ?_
 unfold b4L
 intro k4 a4 n4
 have h4:w5 (S.set k4 ⟨4,[zC],a4⟩) k4 4 zC:=w5.new
 change a9 _ _
 have le4:S.le (S.set k4 ⟨4,[zC],a4⟩):=b7.le_new n4
 by_cases hn:n<0∨n≥bs.length
 ·have e:G7 bs n=(c6B,(0,2)):=by unfold G7;rw[if_pos hn]
  have fin:(a9 (E0 (u6 [(D.int .u8 0),(.int .i64 0),(.int .i64 0), .nilSlc] [])) fun v8=>f0 (S.set k4 ⟨4,[zC],a4⟩) 4 (.ptr k4 0) v8 fun v9 S10=>a9 (i9 S10 4 (.ptr k4 0)) fun v11=>d8 E (fun v S'=>∃t,v=c2R (G7 bs n) t∧Grw S t ((G7 bs n).1.2.2.2.map a2g) 2 S') (.tup [v11,(.int .i64 0),(.int .i64 2)]) S10):=by
   rw[fiN,agS,oD]
   refine h4.st (clA _) ⟨rfl,by decide,by decide⟩ fun a=> ?_
   rw[(w5.new).all (n:=4) (by decide) rfl,oD,b7.set_set]
   refine d8.drop n4 (d8.here ⟨.nilSlc, ?_, ?_⟩)
   ·rw[e];rfl
   ·rw[e];exact Grw.nil _ _
  rw[M9,oD]
  by_cases h1:n<0
  ·rw[decide_eq_true h1]
   simp only[wdB,vdF,oD,pdB,if_true,cdT,show((true==false)=false) from rfl]
   exact fin
  ·have h2:decide (n≥(bs.length:Int))=true:=decide_eq_true (hn.resolve_left h1)
   rw[decide_eq_false h1]
   simp only[wdB,vdT,oD,pdB,Bool.false_eq_true,if_false,M5,a9V,h2,cdT,show((false==false)=true) from rfl]
   exact fin
 have hn0:¬n<0:=fun h=>hn (.inl h)
 have hn1:¬n≥(bs.length:Int):=fun h=>hn (.inr h)
 obtain⟨p,rfl⟩:∃p:Nat,n=(p:Int):=⟨n.toNat,by omega⟩
 have hp:p<bs.length:=by omega
 have edT:G7 bs (p:Int)=c0Q bs p:=by unfold G7;rw[if_neg hn];rfl
 obtain⟨op,hop⟩:∃op,op=bs[p]:=⟨_,rfl⟩
 have hj:bs[p]? =some op:=by rw[List.getElem?_eq_getElem hp,hop]
 have hbop:M3 op:=hb op (by rw[hop];exact List.getElem_mem _)
 have egd:bs.getD p 0=op:=by rw[List.getD_eq_getElem?_getD,hj];rfl
 rw[M9,oD,decide_eq_false hn0]
 simp only[wdB,vdT,oD,pdB,Bool.false_eq_true,if_false,M5,a9V,decide_eq_false hn1,cdF,show((false==false)=true) from rfl]
 rw[b7k hj,oD,lsE,List.getElem?_cons_zero,oD]
 have hag:E0 (u6 [(D.int .u8 0),(.int .i64 0),(.int .i64 0), .nilSlc] [(0,1, .int .u8 op)])=some (.agg (a0H op 0 0 .nilSlc)):=rfl
 rw[hag,oD]
 intro k7 a7 n7
 have d47:k4≠k7:=h4.none n7
 have n7':S k7=none:=b7.none_of le4 n7
 have h7z:w5 ((S.set k4 ⟨4,[zC],a4⟩).set k7 ⟨4,[zC],a7⟩) k7 4 zC:=w5.new
 refine h7z.st (ds:=a0H op 0 0 .nilSlc) (clA _) ⟨rfl,by decide,by decide⟩ fun a7=> ?_
 rw[b7.set_set,show o5 zC 0 (a0H op 0 0 .nilSlc)=a0H op 0 0 .nilSlc from rfl]
 have h7:w5 ((S.set k4 ⟨4,[zC],a4⟩).set k7 ⟨4,[a0H op 0 0 .nilSlc],a7⟩) k7 4 (a0H op 0 0 .nilSlc):=w5.new
 have h4':=h4.set (o:=⟨4,[a0H op 0 0 .nilSlc],a7⟩) n7
 have le7:S.le ((S.set k4 ⟨4,[zC],a4⟩).set k7 ⟨4,[a0H op 0 0 .nilSlc],a7⟩):=b7.le_set le4 n7'
 generalize (S.set k4 ⟨4,[zC],a4⟩).set k7 ⟨4,[a0H op 0 0 .nilSlc],a7⟩=T7 at*
 rw[I4,oD,h7.ld,show(a0H op 0 0 .nilSlc)[0+0]? =some (.int .u8 op) from rfl,oD]
 refine b2y.use ?_
 simp only[exD,List.getElem?_cons_zero,List.getElem?_cons_succ,oD,unN]
 cases hlay:lay op with
 |none=>
  rw[show(!(none:Option (List Fld)).isSome)=true from rfl,cdT,fiN,agS,oD]
  have e:G7 bs (p:Int)=(c6B,(0,120)):=by rw[edT];unfold c0Q;rw[egd,if_pos hlay]
  refine h4'.st (clA _) ⟨rfl,by decide,by decide⟩ fun a=> ?_
  rw[(w5.new).all (n:=4) (by decide) rfl,oD]
  refine d8.less (b7.le_set le7 n4) (d8.here ⟨.nilSlc, ?_, ?_⟩)
  ·rw[e];rfl
  ·rw[e];exact Grw.nil _ _
 |some l=>
 rw[show(!(some l).isSome)=false from rfl,cdF,F7,oD,o3 (by omega) (by omega)]
 have hag2:E0 (u6 [.nilSlc,(D.int .i64 0),(.int .i64 0)] [(0,1,bD bs),(1,1, .int .i64 ((p:Int)+1))])=some (.agg (rdC bs (p+1,0))):=rfl
 rw[hag2,oD,clA,oD]
 intro k10 a10 n10
 have hst:a0A S k4 k7 k10 (a0H op 0 0 .nilSlc) bs (p+1,0) (T7.set k10 ⟨3,[rdC bs (p+1,0)],a10⟩):=
  ⟨b7.le_set le7 (b7.none_of le7 n10),n4,n7',b7.none_of le7 n10,d47,h4'.set n10,h7.set n10,w5.new⟩
 have hl2:l.length≤2:=by have:=b3m (op:=op);rw[hlay]at this;exact this
 have hgood:∀f∈l,b1q f:=by have:=b6n op;rw[hlay]at this;exact this
 have hgd:(lay op).getD []=l:=by rw[hlay];rfl
 rw[lnL,oD,a4G,hgd]
 have hl60:bs.length<2^60:=by omega
 have edS:c0Q bs p=if(b5P bs p).2.2≠0 then(c6B,(0,(b5P bs p).2.2)) else b5P bs p:=by
  unfold c0Q;rw[egd,if_neg (by rw[hlay];simp)]
 refine b4f (I:=fun n x4 x7 x10 x45 x46 x47 T=>x4= .ptr k4 0∧x7= .ptr k7 0∧x10= .ptr k10 0∧x45= .lst (a3L op) 2∧x46= .int .i64 (l.length:Int)∧∃(j:Nat) (a b:Int) (s:Nat×Int),x47= .int .i64 (j:Int)∧j+n=l.length∧
   a0A S k4 k7 k10 (a0H op a b .nilSlc) bs s T∧s.1≤bs.length∧b9O bs j a b s (l.drop j)=W2 bs l (p+1,0)) ?_ (n:=l.length)
  ⟨rfl,rfl,rfl,rfl,rfl,0,0,0,(p+1,0),rfl,by omega,hst,by show p+1≤bs.length;omega,d0t hl2⟩
 rintro n _ _ _ _ _ _ T ⟨rfl,rfl,rfl,rfl,rfl,j,a,b,s,rfl,hjn,hd,hs,hfold⟩
 unfold a5I
 rw[M9,oD,O4]
 refine⟨fun hlt=> ?_,fun hge=> ?_⟩
 ·have hlt:j<l.length:=by omega
  obtain⟨f,hf⟩:∃f,f=l[j]:=⟨_,rfl⟩
  have hjf:l[j]? =some f:=by rw[List.getElem?_eq_getElem hlt,hf]
  obtain⟨row,hrow,hfd⟩:=c4e (op:=op) (i:=j) (f:=f) (by rw[hgd];exact hjf)
  have hg:=hgood f (by rw[hf];exact List.getElem_mem _)
  have hg1:=hg.1
  have hg8:=a5s hg
  have hrl:=hfd.len
  rw[b5q hrow,oD,laE,if_pos ⟨by decide,by omega⟩,oD,List.drop_zero,List.take_of_length_le (by omega)]
  intro k ak nk
  refine(w5.new (sz:=2) (c:=[D.int .i64 0, .nilFn])).st (ds:=row) (clA _) ⟨hrl,by decide,by simp⟩ fun ak=> ?_
  rw[b7.set_set,d1b hfd]
  have hd2:=hd.new (o:=⟨2,[row],ak⟩) nk
  have hc:w5 (T.set k ⟨2,[row],ak⟩) k 2 row:=w5.new
  change a9 _ _
  rw[c6v hjf]at hfold
  have hI:=c3q (f:=f) hs
  rw[a1Q,oD,cdB]
  refine⟨fun h0=> ?_,fun h0=> ?_⟩
  ·have h0:j=0:=by have:(j:Int)=0:=by simpa using h0
                   omega
   rw[if_pos h0,if_pos h0]at hfold
   rw[hc.all (n:=2) (by decide) hrl.symm,oD]
   refine(a7z hd2 hb hl60 hs hfd hg1 hg8).use ?_
   rintro v T2 ⟨rfl,hd3,_⟩
   rw[I4,oD]
   refine hd3.h7.st (clI _ _) ⟨rfl,by decide,by simp[a0H]⟩ fun a7=> ?_
   rw[F7,oD,o3 (by omega) (by omega)]
   exact⟨n - 1,by omega,rfl,rfl,rfl,rfl,rfl,j+1,_,b,_,rfl,by omega,hd3.set7 (c:=a0H op (G5 bs f s).1 b .nilSlc),hI,hfold⟩
  ·have h0:¬j=0:=by have:¬(j:Int)=0:=by simpa using h0
                    omega
   rw[if_neg h0,if_neg h0]at hfold
   rw[hc.all (n:=2) (by decide) hrl.symm,oD]
   refine(a7z hd2 hb hl60 hs hfd hg1 hg8).use ?_
   rintro v T2 ⟨rfl,hd3,_⟩
   rw[I4,oD]
   refine hd3.h7.st (clI _ _) ⟨rfl,by decide,by simp[a0H]⟩ fun a7=> ?_
   rw[F7,oD,o3 (by omega) (by omega)]
   exact⟨n - 1,by omega,rfl,rfl,rfl,rfl,rfl,j+1,a,_,_,rfl,by omega,hd3.set7 (c:=a0H op a (G5 bs f s).1 .nilSlc),hI,hfold⟩
 ·have hj':j=l.length:=by omega
  subst hj'
  rw[List.drop_length,b9O]at hfold
  rw[I4,oD,hd.h7.ld,show(a0H op a b .nilSlc)[0+0]? =some (.int .u8 op) from rfl,oD,a1Q,oD,cdB]
  refine⟨fun h49=> ?_,fun h49=> ?_⟩
  ·have h49:op=49:=by simpa using h49
   have hb0:b=0:=by
    have hl1:=d1C hlay h49
    rw[hl1]at hfold
    exact congrArg (fun q:Int×Int×(Nat×Int)=>q.2.1) hfold
   subst hb0
   have edX:b5P bs p=a7p bs 49 a s:=by unfold b5P;rw[egd,if_pos h49,hgd, ←hfold]
   have d7:∀ {k:Nat},T k=none→k7≠k:=fun hk=>hd.h7.none hk
   have hfin:∀ {k l:Nat} {T':b7},T k=none→T l=none→a0A S k4 k7 k10 (a0H op a 0 .nilSlc) bs s T'→w5 T' k 2 [.int .i64 4,a0c 0 4294967295]→w5 T' l 2 [.int .i64 8,a6m (IntKind.u8.wrap a)]→
     t8 E w0 (d8 E (fun v S'=>∃t,v=c2R (G7 bs (p:Int)) t∧Grw S t ((G7 bs (p:Int)).1.2.2.2.map a2g) 2 S')) (.ptr k4 0) (.ptr k7 0) (.ptr k10 0) (.ptr k 0) (.ptr l 0) T':=fun{k l T'} nk nl hd' c1 c2=>by
    refine d1S hb hl hd' hs c1 c2 (b7.none_of hd.le nk) (b7.none_of hd.le nl) ⟨d7 nk,d7 nl⟩ fun t S' hg=> ?_
    rw[h49]
    rw[h49]at hg
    by_cases he:(a7p bs 49 a s).2.2=0
    ·rw[if_pos he]
     have e:G7 bs (p:Int)=a7p bs 49 a s:=by rw[edT,edS,edX,if_neg (by simp[he])]
     refine d8.here ⟨t, ?_,by rw[e];exact hg⟩
     rw[e]
     unfold c2R
     rw[he]
     rfl
    ·rw[if_neg he]
     have e:G7 bs (p:Int)=(c6B,(0,(a7p bs 49 a s).2.2)):=by rw[edT,edS,edX,if_pos he]
     refine d8.less hg.le (d8.here ⟨.nilSlc, ?_,by rw[e];exact Grw.nil _ _⟩)
     rw[e];rfl
   have ld1:c9 T (.ptr k7 (0+1))=some (.int .i64 a):=hd.h7.ld 1
   have hA:∀ {k l:Nat} {ak al:List AV},T k=none→(T.set k ⟨2,[[.int .i64 0, .nilFn]],ak⟩) l=none→∀ak al,t8 E w0 (d8 E (fun v S'=>∃t,v=c2R (G7 bs (p:Int)) t∧Grw S t ((G7 bs (p:Int)).1.2.2.2.map a2g) 2 S')) (.ptr k4 0) (.ptr k7 0) (.ptr k10 0) (.ptr k 0) (.ptr l 0)
     ((T.set k ⟨2,[[.int .i64 4,a0c 0 4294967295]],ak⟩).set l ⟨2,[[.int .i64 8,a6m (IntKind.u8.wrap a)]],al⟩):=fun{k l _ _} nk nl ak al=>by
    obtain⟨ne,nl'⟩:=b7.fresh nl
    have nl2:(T.set k ⟨2,[[.int .i64 4,a0c 0 4294967295]],ak⟩) l=none:=by rw[b7.set_ne _ _ _ ne];exact nl'
    exact hfin nk nl' ((hd.new nk).new nl2) ((w5.new).set nl2) w5.new
   have hB:∀ {k l:Nat} {ak al:List AV},T k=none→(T.set k ⟨2,[[.int .i64 0, .nilFn]],ak⟩) l=none→∀ak al,t8 E w0 (d8 E (fun v S'=>∃t,v=c2R (G7 bs (p:Int)) t∧Grw S t ((G7 bs (p:Int)).1.2.2.2.map a2g) 2 S')) (.ptr k4 0) (.ptr k7 0) (.ptr k10 0) (.ptr l 0) (.ptr k 0)
     ((T.set k ⟨2,[[.int .i64 8,a6m (IntKind.u8.wrap a)]],ak⟩).set l ⟨2,[[.int .i64 4,a0c 0 4294967295]],al⟩):=fun{k l _ _} nk nl ak al=>by
    obtain⟨ne,nl'⟩:=b7.fresh nl
    have nl2:(T.set k ⟨2,[[.int .i64 8,a6m (IntKind.u8.wrap a)]],ak⟩) l=none:=by rw[b7.set_ne _ _ _ ne];exact nl'
    exact hfin nl' nk ((hd.new nk).new nl2) w5.new ((w5.new).set nl2)
   have l0:∀ {k:Nat} {o:L2},T k=none→(T.set k o) k7=T k7:=fun nk=>b7.set_ne _ _ _ (d7 nk)
   simp only[I4,oD,ld1,cvI]
   repeat' (refine And.intro ?_ ?_)
   all_goals (repeat (first|refine E9.use ?_|refine a0Y.use ?_|refine⟨fwR _ _, ?_⟩|rw[a3X (b2H _ _),oD]|rw[a3X (c0l _),oD]))
   all_goals (intro k ak nk)
   all_goals (have f1:=l0 (o:=⟨2,[[.int .i64 0, .nilFn]],ak⟩) nk)
   all_goals (repeat (first|refine E9.use ?_|refine a0Y.use ?_|rw[a3X (b2H _ _),oD]|rw[a3X (c0l _),oD]|refine⟨f1, ?_⟩))
   all_goals (intro l' al nl)
   all_goals (have f2:∀ {o:L2},((T.set k ⟨2,[[.int .i64 0, .nilFn]],ak⟩).set l' o) k7=T k7:=fun{o}=>by rw[b7.set_ne _ _ _ (d7 (b7.fresh nl).2)];exact f1)
   all_goals (have ne:k≠l':=Ne.symm (b7.fresh nl).1)
   all_goals (repeat (first|refine E9.use ?_|refine a0Y.use ?_|rw[a3X (b2H _ _),oD]|rw[a3X (c0l _),oD]|refine⟨f2, ?_⟩))
   all_goals (first
    |refine stP (k:=k) (cs:=[.int .i64 0, .nilFn]) (b7.set_ne _ _ _ ne |>.trans (b7.set_same _ _ _)) (clA _) ⟨rfl,by decide,by simp⟩ fun a1=> ?_
    |refine stP (k:=l') (cs:=[.int .i64 0, .nilFn]) (b7.set_same _ _ _) (clA _) ⟨rfl,by decide,by simp⟩ fun a1=> ?_)
   all_goals (first
    |refine stP (k:=l') (cs:=[.int .i64 0, .nilFn]) ((b7.set_ne _ _ _ (Ne.symm ne)).trans (b7.set_same _ _ _)) (clA _) ⟨rfl,by decide,by simp⟩ fun a2=> ?_
    |refine stP (k:=k) (cs:=[.int .i64 0, .nilFn]) (((b7.set_ne _ _ _ ne).trans (b7.set_ne _ _ _ ne)).trans (b7.set_same _ _ _)) (clA _) ⟨rfl,by decide,by simp⟩ fun a2=> ?_)
   all_goals (first|rw[d3U _ ne]|rw[d3Y _ ne])
   all_goals (first|exact hA (al:=al) nk nl _ _|exact hB (al:=al) nk nl _ _)
  ·have h49:¬op=49:=by simpa using h49
   have edX:b5P bs p=((op,a,b,[]),s):=by unfold b5P;rw[egd,if_neg h49,hgd, ←hfold]
   refine c7e hd.h4 hd.h7 hd.h10 rfl rfl fun S'' hS''=> ?_
   have hle:S.le S'':=fun i o e=>by rw[hS'' i (fun e'=>by rw[e',hd.n4]at e;cases e)];exact hd.le _ _ e
   refine d8.less hle (d8.here ⟨.nilSlc, ?_, ?_⟩)
   ·by_cases he:s.2=0
    ·rw[if_pos he,edT,edS,edX,if_neg (by simp[he])]
     unfold c2R;rw[he]
    ·rw[if_neg he,edT,edS,edX,if_pos (by simpa using he)];rfl
   ·rw[edT,edS,edX]
    by_cases he:s.2=0
    ·rw[if_neg (by simp[he])];exact Grw.nil _ _
    ·rw[if_pos (by simpa using he)];exact Grw.nil _ _
end
end
end Go.Proofs.Ytchnpgddpaonhaa.d
end
section
namespace Go.Am
def ob:D→List Nat
 | .raw k _ _ _ _ _=>[k]
 |_=>[]
section
variable{S T:b7}{av:List Nat}{t u:D}{rows rows':List (List D)}{sz sz':Nat}
theorem GrA.ob_some(h:GrA S av t rows sz T):∀j∈ob t,T j≠Option.none:=by
 rcases h with ⟨rfl,_⟩|⟨k,acs,_,_,rfl,h3⟩
 ·simp[ob]
 ·simp[ob,h3]
theorem GrA.ob_av(h:GrA S av t rows sz T):∀j∈ob t,j ∉ av:=by
 rcases h with ⟨rfl,_⟩|⟨k,acs,_,h1,rfl,_⟩
 ·simp[ob]
 ·simpa [ob]using h1
theorem GrA.apart(h:GrA S av t rows sz T){T':b7}{av':List Nat}(e:∀j∈ob t,T' j=T j)(ha:∀j∈ob t,j ∉ av'):GrA S av' t rows sz T':=by
 rcases h with h|⟨k,acs,h0,h1,rfl,h3⟩
 ·exact .inl h
 ·exact .inr ⟨k,acs,h0,ha k (by simp[ob]),rfl,by rw[e k (by simp[ob])];exact h3⟩
theorem d8.grA{E:l9}{Q:D→b7→Prop}{pre post:List D}(h:GrA S av t rows sz T)(hle:S.le T)(hQ:∀T',S.le T'→(∀j,j ∉ ob t→T' j=T j)→d8 E Q (.tup (pre++ .lst rows sz::post)) T'):d8 E Q (.tup (pre++t::post)) T:=by
 rcases h with ⟨rfl,rfl⟩|⟨k,acs,h0,h1,rfl,h3⟩
 ·exact d8.nilT (hQ T hle fun _ _=>rfl)
 ·refine d8.freezeT h3 rfl (by simp) (Nat.le_refl _) ?_
  simpa using hQ (T.erase k) (b7.le_erase hle h0) fun j hj=>b7.erase_ne _ _ (by simpa [ob]using hj)
def GrP(S:b7)(av:List Nat)(t:D)(rows:List (List D))(sz:Nat)(u:D)(rows':List (List D))(sz':Nat)(T:b7):Prop:=
 S.le T∧(∀j∈av,T j≠Option.none)∧GrA S (ob u++av) t rows sz T∧GrA S (ob t++av) u rows' sz' T
theorem GrP.nil:GrP S [] .nilSlc [] sz .nilSlc [] sz' S:=⟨b7.le_refl _,by simp,GrA.nil,GrA.nil⟩
theorem GrP.swap(h:GrP S av t rows sz u rows' sz' T):GrP S av u rows' sz' t rows sz T:=⟨h.1,h.2.1,h.2.2.2,h.2.2.1⟩
theorem GrP.push(h:GrP S av t rows sz u rows' sz' T){bytes:Nat}{v:D}{news:List (List D)}(hv:rowsS T sz v=some news)(hn:news≠[])(hb:0<bytes∧(2*(rows.length+news.length)+768)*bytes≤2^47){K:D→b7→Prop}
  (hK:∀t' T',(∀j∈av,T' j=T j)→GrP S av t' (rows++news) sz u rows' sz' T'→K t' T'):y8 T sz bytes t v K:=by
 obtain⟨h1,h2,h3,h4⟩:=h
 refine h3.push h1 (fun j hj=> ?_) hv hn hb fun t' T' hle he hg=>hK t' T' (fun j hj=>he j (List.mem_append_right _ hj)) ⟨hle,fun j hj=> ?_,hg, ?_⟩
 ·rcases List.mem_append.1 hj with hj|hj
  ·exact h4.ob_some j hj
  ·exact h2 j hj
 ·rw[he j (List.mem_append_right _ hj)];exact h2 j hj
 ·refine h4.apart (fun j hj=>he j (List.mem_append_left _ hj)) fun j hj hm=> ?_
  rcases List.mem_append.1 hm with hm|hm
  ·exact hg.ob_av j hm (List.mem_append_left _ hj)
  ·exact h4.ob_av j hj (List.mem_append_right _ hm)
theorem GrP.set(h:GrP S av t rows sz u rows' sz' T){l:Nat}{o:L2}(hl:T l=Option.none):GrP S av t rows sz u rows' sz' (T.set l o):=by
 obtain⟨h1,h2,h3,h4⟩:=h
 exact⟨b7.le_set h1 (b7.none_of h1 hl),fun j hj=>(by rw[b7.set_ne _ _ _ (fun e=>h2 j hj (by rw[e];exact hl))];exact h2 j hj),h3.set (.inr hl),h4.set (.inr hl)⟩
theorem GrP.more(h:GrP S av t rows sz u rows' sz' T){l:Nat}{o:L2}(hl:T l=Option.none):GrP S (l::av) t rows sz u rows' sz' (T.set l o):=by
 have hs:=h.set (o:=o) hl
 have n1:∀j∈ob t,j≠l:=fun j hj e=>h.2.2.1.ob_some j hj (e▸hl)
 have n2:∀j∈ob u,j≠l:=fun j hj e=>h.2.2.2.ob_some j hj (e▸hl)
 refine⟨hs.1,fun j hj=> ?_,hs.2.2.1.apart (fun _ _=>rfl) fun j hj hm=> ?_,hs.2.2.2.apart (fun _ _=>rfl) fun j hj hm=> ?_⟩
 ·rcases List.mem_cons.1 hj with rfl|hj
  ·rw[b7.set_same];simp
  ·exact hs.2.1 j hj
 ·rcases List.mem_append.1 hm with hm|hm
  ·exact hs.2.2.1.ob_av j hj (List.mem_append_left _ hm)
  ·rcases List.mem_cons.1 hm with rfl|hm
   ·exact n1 _ hj rfl
   ·exact hs.2.2.1.ob_av j hj (List.mem_append_right _ hm)
 ·rcases List.mem_append.1 hm with hm|hm
  ·exact hs.2.2.2.ob_av j hj (List.mem_append_left _ hm)
  ·rcases List.mem_cons.1 hm with rfl|hm
   ·exact n2 _ hj rfl
   ·exact hs.2.2.2.ob_av j hj (List.mem_append_right _ hm)
theorem GrP.fin{E:l9}{Q:D→b7→Prop}{post:List D}(h:GrP S av t rows sz u rows' sz' T)(hQ:d8 E Q (.tup (.lst rows sz:: .lst rows' sz'::post)) S):d8 E Q (.tup (t::u::post)) T:=by
 obtain⟨h1,h2,h3,h4⟩:=h
 refine d8.grA (pre:=[]) h3 h1 fun T' hle he=> ?_
 have h4':GrA S (ob t++av) u rows' sz' T':=h4.apart (fun j hj=>he j fun hm=>h3.ob_av j hm (List.mem_append_left _ hj)) fun j hj hm=>h4.ob_av j hj hm
 exact d8.grA (pre:=[.lst rows sz]) h4' hle fun T2 hle2 _=>d8.less hle2 hQ
end
end Go.Am
end
section
open Go.Proofs Go Go.Am Go.Op
namespace Go.Proofs.Ytchnpgddpaonhaa.d
section
section
variable{E:l9}{w0:o0}
theorem d2t(m:Mo):(moC m)[0]? =some (b2i m.types)∧(moC m)[1]? =some (b1g m.texts)∧(moC m)[2]? =some (b2p m.funcs):=⟨rfl,rfl,rfl⟩
structure Mo.Small (m:Mo) (N:Nat):Prop where
 types:m.types.length≤N
 texts:m.texts.length≤N
 funcs:m.funcs.length≤N
 fields:∀t∈m.types,t.fields.length≤N
 params:∀r∈m.funcs,r.params.length≤N∧r.results.length≤N∧r.code.length≤N
end
end
section
@[simp] theorem d1O(S:b7)(l:List (Tx×Int)):rowsS S 2 (a5z l)=some (l.map a0n):=by simp[a5z,rowsS,K7]
@[simp] theorem d2E(S:b7)(l:List Tx):rowsS S 1 (b1g l)=some (A4 (l.map D.str)):=by simp[b1g,rowsS,K7]
theorem Grw.cells{S0 S:b7}{t:D}{rows:List (List D)}{sz:Nat}(g:Grw S0 t rows sz S):r4 t=some [t]:=by rcases g with ⟨rfl,_⟩|⟨_,_,_,rfl,_⟩<;>rfl
structure Mo.Fits (m:Mo):Prop where
 ok:m.Ok
 types:m.types.length<2^30
 texts:m.texts.length<2^30
 funcs:m.funcs.length<2^30
 fields:∀t∈m.types,t.fields.length<2^30
 params:∀r∈m.funcs,r.params.length<2^30∧r.results.length<2^30∧r.code.length<2^30
section
variable{E:l9}{w0:o0}
end
end
section
def a0B(P:Program)(E:l9)(w0:o0)(f:FuncId)(ds:List D)(d:D):Prop:=∀S,n9 P E w0 f ds S fun d' S'=>d'=d∧S'=S
theorem a0B.use{P:Program}{E:l9}{w0:o0}{f:FuncId}{ds:List D}{d:D}(h:a0B P E w0 f ds d){S:b7}{K:D→b7→Prop}(hk:K d S):n9 P E w0 f ds S K:=(h S).use fun d' S' ⟨a,b⟩=>by subst a b;exact hk
section
variable{E:l9}{w0:o0}
end
end
section
def b2j(d:Dat):In:=⟨d.1,d.2.1,d.2.2.1,d.2.2.2⟩
theorem c9j(d:Dat):(b2j d).dat=d:=rfl
def b9h(l:List In):D:= .lst (l.map inC) 4
def d0X(r:Dat×(Nat×Int)):D:= .tup [inD (b2j r.1), .int .i64 (r.2.1:Int), .int .i64 r.2.2]
def b4T(l:List (Dat×Nat)):List In:=l.map fun x=>b2j x.1
def b4R(l:List (Dat×Nat)):List Int:=l.map fun x=>(x.2:Int)
def d1j(r:Except Int (List (Dat×Nat))):D:=match r with
 | .ok l=> .tup [b9h (b4T l),iD (b4R l), .int .i64 0]
 | .error e=> .tup [b9h [],iD [], .int .i64 e]
abbrev b7Z(bs:List Int):Except Int (List (Dat×Nat)):=b7G bs (bs.length+1) 0
theorem c1C{bs:List Int}{n p:Nat}(hp:p<bs.length):b7G bs (n+1) p=if(G7 bs p).2.2=0 then(match b7G bs n (G7 bs p).2.1 with| .ok l=> .ok (((G7 bs p).1,p)::l)| .error e=> .error e) else .error (G7 bs p).2.2:=by
 rw[b7G,if_neg (by omega)]
 all_goals rfl
theorem c8k{done:List (Dat×Nat)}{x:Dat×Nat}(r:Except Int (List (Dat×Nat))):c8L done (match r with| .ok l=> .ok (x::l)| .error e=> .error e)=c8L (done++[x]) r:=by
 cases r with
 |error e=>rfl
 |ok l=>simp[c8L]
theorem c5v{bs:List Int}(hb:∀b∈bs,M3 b){p:Nat}(h:(G7 bs (p:Int)).2.2=0):(b2j (G7 bs p).1).Ok∧p<(G7 bs p).2.1∧(G7 bs p).2.1≤bs.length:=by
 obtain⟨_,_,h3,_,hsg,hnx⟩:=d1m hb h (c9j _)
 rw[Int.toNat_natCast]at hnx hsg
 have:=d1p (b2j (G7 bs p).1)
 have:=hsg.1
 exact⟨h3,by omega,by omega⟩
section
variable{E:l9}{w0:o0}
theorem c8s{k sz:Nat}{rows:List (List D)}{acs:List AV}:Am.frz k ⟨sz,rows,acs⟩ (.raw k 0 rows.length rows.length false sz)= .lst rows sz:=by
 rw[c7w (by omega) (Nat.le_refl _),List.drop_zero,List.take_length]
theorem c0S{bs:List Int}(hb:∀b∈bs,M3 b)(hl:bs.length<2^30){n:Int}:a0B Try.prog E w0 a4A [bD bs, .int .i64 n] (d0X (G7 bs n)):=fun S=>
 (b9A hb hl).fin fun v S' ⟨t,ev,g⟩=>by
  subst ev
  rcases g with ⟨rfl,e,rfl⟩|⟨k,acs,h0,rfl,rfl⟩
  ·refine d8.weak (d':=d0X (G7 bs n)) ?_ d8.pure
   refine Wk.tup ⟨Wk.agg ⟨Wk.refl _,Wk.refl _,Wk.refl _, ?_,trivial⟩,Wk.refl _,Wk.refl _,trivial⟩
   have:b6j (b2j (G7 bs n).1).arms= .lst [] 2:=by unfold b6j;rw[show(b2j (G7 bs n).1).arms=(G7 bs n).1.2.2.2 from rfl,e]
   rw[this]
   exact Wk.nil 2
  ·refine d8.frz h0 ?_
   have:Am.frz k ⟨2,(G7 bs n).1.2.2.2.map a2g,acs⟩ (c2R (G7 bs n) (.raw k 0 ((G7 bs n).1.2.2.2.map a2g).length ((G7 bs n).1.2.2.2.map a2g).length false 2))=d0X (G7 bs n):=by
    have e:∀(o:L2) (a b c d e:Int) (tt:D),Am.frz k o (.tup [.agg [.int .u8 a, .int .i64 b, .int .i64 c,tt], .int .i64 d, .int .i64 e])= .tup [.agg [.int .u8 a, .int .i64 b, .int .i64 c,Am.frz k o tt], .int .i64 d, .int .i64 e]:=by
     intros;simp only[Am.frz,Am.b8w]
    unfold c2R a0H
    rw[e,c8s]
    rfl
   rw[this]
   exact d8.pure
theorem c6W{bs:List Int}(hb:∀b∈bs,M3 b)(hl:bs.length<2^30):a0B Try.prog E w0 b6d [bD bs] (d1j (b7Z bs)):=fun S=>by
 refine c3J ?_
 unfold c1V
 refine c0x (I:=fun n x0 x5 x6 x7 T=>x0=bD bs∧∃(p:Nat) (done:List (Dat×Nat)),x7= .int .i64 (p:Int)∧p≤bs.length∧bs.length<p+n∧done.length≤p∧GrP S [] x5 ((b4T done).map inC) 4 x6 (iC (b4R done)) 1 T∧b7Z bs=c8L done (b7G bs n p)) ?_ (n:=bs.length+1)
  ⟨rfl,0,[],rfl,by omega,by omega,by simp,GrP.nil,by unfold b7Z;cases b7G bs (bs.length+1) 0<;>rfl⟩
 rintro n _ x5 x6 _ T ⟨rfl,p,done,rfl,hp,hpn,hdl,hg,hrun⟩
 unfold b0u
 rw[M5,oD,M9,oD,O4]
 obtain⟨n,rfl⟩:∃m,n=m+1:=⟨n - 1,by omega⟩
 refine⟨fun hlt=> ?_,fun hge=> ?_⟩
 ·have hlt:p<bs.length:=by omega
  rw[c1C hlt]at hrun
  refine(c0S hb hl).use ?_
  unfold d0X
  simp only[exD,List.getElem?_cons_zero,List.getElem?_cons_succ,oD]
  intro k a nk
  refine(w5.new (sz:=4) (c:=[.int .u8 0, .int .i64 0, .int .i64 0, .nilSlc])).st (ds:=inC (b2j (G7 bs p).1)) (clA _) ⟨rfl,by decide,by decide⟩ fun a'=> ?_
  rw[b7.set_set,show o5 [.int .u8 0, .int .i64 0, .int .i64 0, .nilSlc] 0 (inC (b2j (G7 bs p).1))=inC (b2j (G7 bs p).1) from rfl,b6h,oD,d0U,O4]
  have hg2:=hg.set (o:=⟨4,[inC (b2j (G7 bs p).1)],a'⟩) nk
  refine⟨fun he=> ?_,fun he=> ?_⟩
  ·rw[if_neg he]at hrun
   rw[hrun]
   refine d8.less hg2.1 (d8.weak (d':= .tup [b9h [],iD [], .int .i64 (G7 bs p).2.2]) (Wk.tup ⟨Wk.nil 4,Wk.nil 1,Wk.refl _,trivial⟩) d8.pure)
  ·have he:(G7 bs p).2.2=0:=Classical.not_not.1 he
   obtain⟨_,h1,h2⟩:=c5v hb he
   rw[if_pos he,c8k]at hrun
   rw[(w5.new).all (n:=4) (by decide) rfl,oD,show p7 4 (List.replicate 1 [(D.int .u8 0),(.int .i64 0),(.int .i64 0), .nilSlc]) [(0, .agg (inC (b2j (G7 bs p).1)))]=some [inC (b2j (G7 bs p).1)]from rfl]
   refine O7 rfl ?_
   refine hg2.push (news:=[inC (b2j (G7 bs p).1)]) (by simp[rowsS,K7]) (by simp) (by simp[b4T];omega) fun t' T' _ hg3=> ?_
   rw[show p7 1 (List.replicate 1 [D.int .i64 0]) [(0, .int .i64 (p:Int))]=some (iC [(p:Int)]) from rfl]
   refine O7 rfl ?_
   refine hg3.swap.push (news:=iC [(p:Int)]) (by simp[rowsS,K7]) (by simp[iC,A4]) (by simp[b4R];omega) fun u' T2 _ hg4=> ?_
   refine⟨n,by omega,by trivial,(G7 bs p).2.1,done++[((G7 bs p).1,p)],rfl,h2,by omega,by simp;omega, ?_,hrun⟩
   have e1:(b4T (done++[((G7 bs p).1,p)])).map inC=(b4T done).map inC++[inC (b2j (G7 bs p).1)]:=by simp[b4T]
   have e2:iC (b4R (done++[((G7 bs p).1,p)]))=iC (b4R done)++iC [(p:Int)]:=by rw[←c1t];simp[b4R]
   rw[e1,e2]
   exact hg4.swap
 ·have e0:b7G bs (n+1) p= .ok []:=by rw[b7G,if_pos (by omega)]
  rw[e0]at hrun
  rw[hrun]
  refine hg.fin ?_
  have:d1j (c8L done (.ok []))= .tup [.lst ((b4T done).map inC) 4, .lst (iC (b4R done)) 1, .int .i64 0]:=by simp[d1j,c8L,b9h,iD]
  rw[this]
  exact d8.pure
end
theorem c4n{bs:List Int}(hb:∀b∈bs,M3 b):∀(n p:Nat) (l:List (Dat×Nat)),b7G bs n p= .ok l→p≤bs.length→l.length+p≤bs.length∧∀x∈l,(b2j x.1).Ok
 |0,p,l,h,hp=>by cases h;exact⟨by simpa using hp,by simp⟩
 |n+1,p,l,h,hp=>by
  by_cases hlt:p<bs.length
  ·rw[c1C hlt]at h
   split at h
   ·rename_i he
    obtain⟨h1,h2,h3⟩:=c5v hb he
    split at h
    ·rename_i l' e
     cases h
     obtain⟨g1,g2⟩:=c4n hb n _ l' e h3
     refine⟨by simp only[List.length_cons];omega,fun x hx=> ?_⟩
     rcases List.mem_cons.1 hx with rfl|hx
     ·exact h1
     ·exact g2 x hx
    ·cases h
   ·cases h
  ·have e0:b7G bs (n+1) p= .ok []:=by rw[b7G,if_pos (by omega)]
   rw[e0]at h
   cases h
   exact⟨by simpa using hp,by simp⟩
def b2h(r:Except Int (List (Dat×Nat))):List In×List Int×Int:=match r with
 | .ok l=>(b4T l,b4R l,0)
 | .error e=>([],[],e)
theorem d1o(r:Except Int (List (Dat×Nat))):d1j r= .tup [b9h (b2h r).1,iD (b2h r).2.1, .int .i64 (b2h r).2.2]:=by cases r<;>rfl
theorem d0J{bs:List Int}(hb:∀b∈bs,M3 b):(∀y∈(b2h (b7Z bs)).1,y.Ok)∧(b2h (b7Z bs)).1.length≤bs.length∧(b2h (b7Z bs)).2.1.length≤bs.length:=by
 cases h:b7Z bs with
 |error e=>exact⟨by simp[b2h],by simp[b2h],by simp[b2h]⟩
 |ok l=>
  obtain⟨h1,h2⟩:=c4n hb _ 0 l h (Nat.zero_le _)
  refine⟨fun y hy=> ?_,by simp[b2h,b4T];omega,by simp[b2h,b4R];omega⟩
  obtain⟨x,hx,rfl⟩:=List.mem_map.1 hy
  exact h2 x hx
end
end Go.Proofs.Ytchnpgddpaonhaa.d
end
