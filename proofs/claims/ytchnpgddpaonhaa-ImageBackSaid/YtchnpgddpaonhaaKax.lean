/-
  ImageBackSaid: part Kax of its proof.
-/
import Derived.Test.YtchnpgddpaonhaaKaw
import Derived.Test.YtchnpgddpaonhaaRows
import Derived.Test.YtchnpgddpaonhaaKaq
import Derived.KernelRfl
set_option linter.unusedVariables false
set_option linter.unusedSimpArgs false
set_option maxRecDepth 100000
section
open Go.Proofs Go Go.Am Go.Op
namespace Go.Proofs.Ytchnpgddpaonhaa.d
def b3y(d:Dat):In:=⟨d.1,d.2.1,d.2.2.1,d.2.2.2⟩
theorem d1u(d:Dat):(b3y d).dat=d:=rfl
def c0R(l:List In):D:= .lst (l.map inC) 4
def d3a(r:Dat×(Nat×Int)):D:= .tup [inD (b3y r.1), .int .i64 (r.2.1:Int), .int .i64 r.2.2]
def b6n(l:List (Dat×Nat)):List In:=l.map fun x=>b3y x.1
def b5L(l:List (Dat×Nat)):List Int:=l.map fun x=>(x.2:Int)
def d2S(r:Except Int (List (Dat×Nat))):D:=match r with
 | .ok l=> .tup [c0R (b6n l),iD (b5L l), .int .i64 0]
 | .error e=> .tup [c0R [],iD [], .int .i64 e]
abbrev b9u(bs:List Int):Except Int (List (Dat×Nat)):=c0c bs (bs.length+1) 0
theorem c4i{bs:List Int}{n p:Nat}(hp:p<bs.length):c0c bs (n+1) p=if(I0 bs p).2.2=0 then(match c0c bs n (I0 bs p).2.1 with| .ok l=> .ok (((I0 bs p).1,p)::l)| .error e=> .error e) else .error (I0 bs p).2.2:=by
 rw[c0c,if_neg (by omega)]
 all_goals rfl
theorem d0M{done:List (Dat×Nat)}{x:Dat×Nat}(r:Except Int (List (Dat×Nat))):d0E done (match r with| .ok l=> .ok (x::l)| .error e=> .error e)=d0E (done++[x]) r:=by
 cases r with
 |error e=>rfl
 |ok l=>simp[d0E]
theorem c6s{bs:List Int}(hb:∀b∈bs,K4 b){p:Nat}(h:(I0 bs (p:Int)).2.2=0):(b3y (I0 bs p).1).Ok∧p<(I0 bs p).2.1∧(I0 bs p).2.1≤bs.length:=by
 obtain⟨_,_,h3,_,hsg,hnx⟩:=d3L hb h (d1u _)
 rw[Int.toNat_natCast]at hnx hsg
 have:=d3O (b3y (I0 bs p).1)
 have:=hsg.1
 exact⟨h3,by omega,by omega⟩
section
variable{E:m7}{w0:o0}
theorem d0x{k sz:Nat}{rows:List (List D)}{acs:List AV}:Am.frz k ⟨sz,rows,acs⟩ (.raw k 0 rows.length rows.length false sz)= .lst rows sz:=by
 rw[c9L (by omega) (Nat.le_refl _),List.drop_zero,List.take_length]
theorem c2V{bs:List Int}(hb:∀b∈bs,K4 b)(hl:bs.length<2^30){n:Int}:X6 Try.prog E w0 a5H [bD bs, .int .i64 n] (d3a (I0 bs n)):=fun S=>
 (c0G hb hl).fin fun v S' ⟨t,ev,g⟩=>by
  subst ev
  rcases g with ⟨rfl,e,rfl⟩|⟨k,acs,h0,rfl,rfl⟩
  ·refine d9.weak (d':=d3a (I0 bs n)) ?_ d9.pure
   refine Wk.tup ⟨Wk.agg ⟨Wk.refl _,Wk.refl _,Wk.refl _, ?_,trivial⟩,Wk.refl _,Wk.refl _,trivial⟩
   have:b8q (b3y (I0 bs n).1).arms= .lst [] 2:=by unfold b8q;rw[show(b3y (I0 bs n).1).arms=(I0 bs n).1.2.2.2 from rfl,e]
   rw[this]
   exact Wk.nil 2
  ·refine d9.frz h0 ?_
   have:Am.frz k ⟨2,(I0 bs n).1.2.2.2.map a2I,acs⟩ (c5Q (I0 bs n) (.raw k 0 ((I0 bs n).1.2.2.2.map a2I).length ((I0 bs n).1.2.2.2.map a2I).length false 2))=d3a (I0 bs n):=by
    have e:∀(o:M4) (a b c d e:Int) (tt:D),Am.frz k o (.tup [.agg [.int .u8 a, .int .i64 b, .int .i64 c,tt], .int .i64 d, .int .i64 e])= .tup [.agg [.int .u8 a, .int .i64 b, .int .i64 c,Am.frz k o tt], .int .i64 d, .int .i64 e]:=by
     intros;simp only[Am.frz,Am.c0t]
    unfold c5Q a1w
    rw[e,d0x]
    rfl
   rw[this]
   exact d9.pure
theorem c7P{bs:List Int}(hb:∀b∈bs,K4 b)(hl:bs.length<2^30):X6 Try.prog E w0 b7O [bD bs] (d2S (b9u bs)):=fun S=>by
 refine c4O ?_
 unfold c3L
 refine c1w (I:=fun n x0 x5 x6 x7 T=>x0=bD bs∧∃(p:Nat) (done:List (Dat×Nat)),x7= .int .i64 (p:Int)∧p≤bs.length∧bs.length<p+n∧done.length≤p∧GrP S [] x5 ((b6n done).map inC) 4 x6 (iC (b5L done)) 1 T∧b9u bs=d0E done (c0c bs n p)) ?_ (n:=bs.length+1)
  ⟨rfl,0,[],rfl,by omega,by omega,by simp,GrP.nil,by unfold b9u;cases c0c bs (bs.length+1) 0<;>rfl⟩
 rintro n _ x5 x6 _ T ⟨rfl,p,done,rfl,hp,hpn,hdl,hg,hrun⟩
 unfold b2A
 rw[M6,oD,J0,oD,J6]
 obtain⟨n,rfl⟩:∃m,n=m+1:=⟨n - 1,by omega⟩
 refine⟨fun hlt=> ?_,fun hge=> ?_⟩
 ·have hlt:p<bs.length:=by omega
  rw[c4i hlt]at hrun
  refine(c2V hb hl).use ?_
  unfold d3a
  simp only[exD,List.getElem?_cons_zero,List.getElem?_cons_succ,oD]
  intro k a nk
  refine(w7.new (sz:=4) (c:=[.int .u8 0, .int .i64 0, .int .i64 0, .nilSlc])).st (ds:=inC (b3y (I0 bs p).1)) (clA _) ⟨rfl,by decide,by decide⟩ fun a'=> ?_
  rw[b7.set_set,show o8 [.int .u8 0, .int .i64 0, .int .i64 0, .nilSlc] 0 (inC (b3y (I0 bs p).1))=inC (b3y (I0 bs p).1) from rfl,b0B,oD,c6y,J6]
  have hg2:=hg.set (o:=⟨4,[inC (b3y (I0 bs p).1)],a'⟩) nk
  refine⟨fun he=> ?_,fun he=> ?_⟩
  ·rw[if_neg he]at hrun
   rw[hrun]
   refine d9.less hg2.1 (d9.weak (d':= .tup [c0R [],iD [], .int .i64 (I0 bs p).2.2]) (Wk.tup ⟨Wk.nil 4,Wk.nil 1,Wk.refl _,trivial⟩) d9.pure)
  ·have he:(I0 bs p).2.2=0:=Classical.not_not.1 he
   obtain⟨_,h1,h2⟩:=c6s hb he
   rw[if_pos he,d0M]at hrun
   rw[(w7.new).all (n:=4) (by decide) rfl,oD,show q9 4 (List.replicate 1 [(D.int .u8 0),(.int .i64 0),(.int .i64 0), .nilSlc]) [(0, .agg (inC (b3y (I0 bs p).1)))]=some [inC (b3y (I0 bs p).1)]from rfl]
   refine P8 rfl ?_
   refine hg2.push (news:=[inC (b3y (I0 bs p).1)]) (by simp[rowsS,L7]) (by simp) (by simp[b6n];omega) fun t' T' _ hg3=> ?_
   rw[show q9 1 (List.replicate 1 [D.int .i64 0]) [(0, .int .i64 (p:Int))]=some (iC [(p:Int)]) from rfl]
   refine P8 rfl ?_
   refine hg3.swap.push (news:=iC [(p:Int)]) (by simp[rowsS,L7]) (by simp[iC,B0]) (by simp[b5L];omega) fun u' T2 _ hg4=> ?_
   refine⟨n,by omega,by trivial,(I0 bs p).2.1,done++[((I0 bs p).1,p)],rfl,h2,by omega,by simp;omega, ?_,hrun⟩
   have e1:(b6n (done++[((I0 bs p).1,p)])).map inC=(b6n done).map inC++[inC (b3y (I0 bs p).1)]:=by simp[b6n]
   have e2:iC (b5L (done++[((I0 bs p).1,p)]))=iC (b5L done)++iC [(p:Int)]:=by rw[←c4e];simp[b5L]
   rw[e1,e2]
   exact hg4.swap
 ·have e0:c0c bs (n+1) p= .ok []:=by rw[c0c,if_pos (by omega)]
  rw[e0]at hrun
  rw[hrun]
  refine hg.fin ?_
  have:d2S (d0E done (.ok []))= .tup [.lst ((b6n done).map inC) 4, .lst (iC (b5L done)) 1, .int .i64 0]:=by simp[d2S,d0E,c0R,iD]
  rw[this]
  exact d9.pure
end
theorem c6x{bs:List Int}(hb:∀b∈bs,K4 b):∀(n p:Nat) (l:List (Dat×Nat)),c0c bs n p= .ok l→p≤bs.length→l.length+p≤bs.length∧∀x∈l,(b3y x.1).Ok
 |0,p,l,h,hp=>by cases h;exact⟨by simpa using hp,by simp⟩
 |n+1,p,l,h,hp=>by
  by_cases hlt:p<bs.length
  ·rw[c4i hlt]at h
   split at h
   ·rename_i he
    obtain⟨h1,h2,h3⟩:=c6s hb he
    split at h
    ·rename_i l' e
     cases h
     obtain⟨g1,g2⟩:=c6x hb n _ l' e h3
     refine⟨by simp only[List.length_cons];omega,fun x hx=> ?_⟩
     rcases List.mem_cons.1 hx with rfl|hx
     ·exact h1
     ·exact g2 x hx
    ·cases h
   ·cases h
  ·have e0:c0c bs (n+1) p= .ok []:=by rw[c0c,if_pos (by omega)]
   rw[e0]at h
   cases h
   exact⟨by simpa using hp,by simp⟩
def b3B(r:Except Int (List (Dat×Nat))):List In×List Int×Int:=match r with
 | .ok l=>(b6n l,b5L l,0)
 | .error e=>([],[],e)
theorem d2X(r:Except Int (List (Dat×Nat))):d2S r= .tup [c0R (b3B r).1,iD (b3B r).2.1, .int .i64 (b3B r).2.2]:=by cases r<;>rfl
theorem d3B{bs:List Int}(hb:∀b∈bs,K4 b):(∀y∈(b3B (b9u bs)).1,y.Ok)∧(b3B (b9u bs)).1.length≤bs.length∧(b3B (b9u bs)).2.1.length≤bs.length:=by
 cases h:b9u bs with
 |error e=>exact⟨by simp[b3B],by simp[b3B],by simp[b3B]⟩
 |ok l=>
  obtain⟨h1,h2⟩:=c6x hb _ 0 l h (Nat.zero_le _)
  refine⟨fun y hy=> ?_,by simp[b3B,b6n];omega,by simp[b3B,b5L];omega⟩
  obtain⟨x,hx,rfl⟩:=List.mem_map.1 hy
  exact h2 x hx
end Go.Proofs.Ytchnpgddpaonhaa.d
end
section
open Go.Proofs Go Go.Am
namespace Go.Proofs.Ytchnpgddpaonhaa.d
def c5K:List (Nat×List Nat):=[]
def c4D:List (Nat×List Nat):=[]
def c5p:List (Nat×X5):=[]
def b8w(E:m7)(w0:o0)(Q:D→b7→Prop)(a0 a1 a2:D)(S:b7):Prop:=
 a9 (r4 a0) fun cs=>o6 S cs fun v0 S1=>
 o6 S1 [(.int .u8 0),(.str []), .nilSlc,(.int .i64 0),(.int .i64 0)] fun v2 S3=>
 a9 (d8 .lss a1 (.int .i64 16)) fun v4=>
 a9 (f0 (d6 v4 false) (some a1)) fun v5=>
 a9 (f0 (d6 v4 false) (d8 .sub v5 (.int .i64 16))) fun v6=>
 a9 (f0 (d6 v4 false) (m6 0 v0)) fun v7=>
 a9 (f0 (d6 v4 false) (b9 S3 v7)) fun v8=>
 a9 (f0 (d6 v4 false) (p7 v8)) fun v9=>
 a9 (f0 (d6 v4 false) (d8 .geq v6 v9)) fun v10=>
 a9 (t8 v4 (.bool true) v10) fun v11=>
 j8 v11
 (a9 (E6 (w6 [(.int .u8 0),(.str []), .nilSlc,(.int .i64 0),(.int .i64 0)] [])) fun v12=>
 i9 S3 5 v2 v12 fun v13 S14=>
 a9 (j0 S14 5 v2) fun v15=>Q (.tup [v15,(.bool false)]) S14)
 (a9 (m6 0 v0) fun v16=>
 a9 (b9 S3 v16) fun v17=>
 a9 (d8 .sub a1 (.int .i64 16)) fun v18=>
 a9 (A0 5 v17 v18) fun v19=>
 a9 (j0 S3 5 v19) fun v20=>
 o6 S3 [(.int .u8 0),(.str []), .nilSlc,(.int .i64 0),(.int .i64 0)] fun v21 S22=>
 i9 S22 5 v21 v20 fun v23 S24=>
 a9 (j0 S24 5 v21) fun v25=>
 a9 (m6 0 v21) fun v26=>
 a9 (b9 S24 v26) fun v27=>
 o5 Try.prog E w0 Z6 [a2,v27] S24 fun v28 S29=>
 t6 v21 S24 S29∧i9 S29 5 v2 v25 fun v30 S31=>
 a9 (j0 S31 5 v2) fun v32=>Q (.tup [v32,v28]) S31)
theorem c1z{E:m7}{w0:o0}{Q:D→b7→Prop}{a0 a1 a2:D}{S:b7}(h:b8w E w0 (d9 E Q) a0 a1 a2 S):o5 Try.prog E w0 a0c [a0,a1,a2] S Q:=
 m9 c5K c4D c5p (fn:=Try.f96) (c:=Try.f96.body.getD .skip) o7 Try.func96 (by kernel_rfl) (by kernel_rfl) h
def d1a:List (Nat×List Nat):=[]
def d0Y:List (Nat×List Nat):=[]
def d0n:List (Nat×X5):=[]
def c7h(E:m7)(w0:o0)(Q:D→b7→Prop)(a0:D)(S:b7):Prop:=
 o6 S [.nilSlc, .nilSlc,(.bool false)] fun v0 S1=>
 a9 (E6 (w6 [.nilSlc, .nilSlc,(.bool false)] [(0,1,a0),(2,1,(.bool true))])) fun v2=>
 i9 S1 3 v0 v2 fun v3 S4=>
 a9 (j0 S4 3 v0) fun v5=>Q v5 S4
theorem c6B{E:m7}{w0:o0}{Q:D→b7→Prop}{a0:D}{S:b7}(h:c7h E w0 (d9 E Q) a0 S):o5 Try.prog E w0 s5 [a0] S Q:=
 m9 d1a d0Y d0n (fn:=Try.f86) (c:=Try.f86.body.getD .skip) o7 Try.func86 (by kernel_rfl) (by kernel_rfl) h
def b3A:List (Nat×List Nat):=[]
def b3D:List (Nat×List Nat):=[]
def b3z:List (Nat×X5):=[]
def a6U(E:m7)(w0:o0)(Q:D→b7→Prop)(a0 a1:D)(S:b7):Prop:=
 a9 (r4 a0) fun cs=>o6 S cs fun v0 S1=>
 o6 S1 [.nilSlc, .nilSlc,(.bool false)] fun v2 S3=>
 a9 (m6 1 v0) fun v4=>
 i9 S3 1 v4 a1 fun v5 S6=>
 a9 (j0 S6 3 v0) fun v7=>
 i9 S6 3 v2 v7 fun v8 S9=>
 a9 (j0 S9 3 v2) fun v10=>Q v10 S9
theorem b1s{E:m7}{w0:o0}{Q:D→b7→Prop}{a0 a1:D}{S:b7}(h:a6U E w0 (d9 E Q) a0 a1 S):o5 Try.prog E w0 k9 [a0,a1] S Q:=
 m9 b3A b3D b3z (fn:=Try.f87) (c:=Try.f87.body.getD .skip) o7 Try.func87 (by kernel_rfl) (by kernel_rfl) h
def b3K:List (Nat×List Nat):=[]
def b3O:List (Nat×List Nat):=[]
def b3U:List (Nat×X5):=[]
def a6M(E:m7)(w0:o0)(Q:D→b7→Prop)(a0 a1:D)(S:b7):Prop:=
 a9 (r4 a0) fun cs=>o6 S cs fun v0 S1=>
 o6 S1 [.nilSlc, .nilSlc,(.bool false)] fun v2 S3=>
 a9 (m6 2 v0) fun v4=>
 i9 S3 1 v4 a1 fun v5 S6=>
 a9 (j0 S6 3 v0) fun v7=>
 i9 S6 3 v2 v7 fun v8 S9=>
 a9 (j0 S9 3 v2) fun v10=>Q v10 S9
theorem b1p{E:m7}{w0:o0}{Q:D→b7→Prop}{a0 a1:D}{S:b7}(h:a6M E w0 (d9 E Q) a0 a1 S):o5 Try.prog E w0 r7 [a0,a1] S Q:=
 m9 b3K b3O b3U (fn:=Try.f88) (c:=Try.f88.body.getD .skip) o7 Try.func88 (by kernel_rfl) (by kernel_rfl) h
def a0Y:List (Nat×List Nat):=[(20,[4,5,7,8,42,43,44])]
def a1u:List (Nat×List Nat):=[(25,[2,3,4,5,25,26])]
def a1b:List (Nat×X5):=[(32,(.node 1 5 (.node 2 5 (.leaf [0,3,4,7,1,2,5,6,8,9]) (.leaf [0,3,4,7,1,5,2,6,8,9])) (.leaf [0,3,4,7,5,1,2,6,8,9]))),(36,(.node 1 5 (.node 2 5 (.leaf [0,3,4,7,1,2,5,6,8,9]) (.leaf [0,3,4,7,1,5,2,6,8,9])) (.leaf [0,3,4,7,5,1,2,6,8,9])))]
noncomputable def a9c:Code:=(l9 [1,1,0,1,0,1,0,1,0,1,0,1,0,1,0,0] (Try.f90.body.getD .skip))
def b0d(E:m7)(w0:o0)(Q:D→b7→Prop):r6→List D→b7→Prop:=
 (s8 1 (G7 Try.prog E w0 a0Y a1u a1b (l9 [1,1,0,1,0,1,0,1,0,1,0,1,1] (Try.f90.body.getD .skip)) (G7 Try.prog E w0 a0Y a1u a1b (l9 [1,1,0,1,0,1,0,1,1] (Try.f90.body.getD .skip)) (s8 0 (G7 Try.prog E w0 a0Y a1u a1b (l9 [1,1,1] (Try.f90.body.getD .skip)) (G8 Try.prog Try.f90 Q))))))
def a9i(E:m7)(w0:o0)(N0:D→D→D→D→D→D→D→b7→Prop)(Q:D→b7→Prop)(x4 x5 x7 x8 x42 x43 x44:D)(S:b7):Prop:=
 a9 (d8 .lss x44 x43) fun v29=>
 j8 v29
 (a9 (A0 2 x42 x44) fun v30=>
 a9 (j0 S 2 v30) fun v31=>
 o6 S [(.str []),(.int .i64 0)] fun v32 S33=>
 i9 S33 2 v32 v31 fun v34 S35=>
 a9 (m6 1 v32) fun v36=>
 a9 (b9 S35 v36) fun v37=>
 u6 S35 1 (q9 1 (List.replicate 1 [(.int .i64 0)]) [(0,v37)]) 1 fun v38 S39=>
 A1 S39 1 8 x8 v38 fun v40 S41=>
 a9 (d8 .add x44 (.int .i64 1)) fun v42=>
 N0 x4 x5 x7 v40 x42 x43 v42 S41)
 (o5 Try.prog E w0 s5 [x8] S fun v43 S44=>
 u6 S44 1 (q9 1 (List.replicate 1 [(.int .i64 0)]) [(0,x5)]) 1 fun v45 S46=>
 o5 Try.prog E w0 k9 [v43,v45] S46 fun v47 S48=>
 o5 Try.prog E w0 r7 [v47,x7] S48 fun v49 S50=>
 i9 S50 3 x4 v49 fun v51 S52=>
 a9 (j0 S52 3 x4) fun v53=>Q v53 S52)
theorem b9v{E:m7}{w0:o0}{N0:D→D→D→D→D→D→D→b7→Prop}{Q:D→b7→Prop}{x4 x5 x7 x8 x42 x43 x44:D}{S:b7}(h:a9i E w0 N0 Q x4 x5 x7 x8 x42 x43 x44 S):
  j9 Try.prog E w0 a9c (n9 200 [4,5,7,8,42,43,44] [x4,x5,x7,x8,x42,x43,x44]) S (A8 (fun T S=>N0 (T.getD 4 b8) (T.getD 5 b8) (T.getD 7 b8) (T.getD 8 b8) (T.getD 42 b8) (T.getD 43 b8) (T.getD 44 b8) S) (b0d E w0 Q)):=l8 a0Y a1u a1b o7 (by kernel_rfl) h
theorem b9X{E:m7}{w0:o0}{Q:D→b7→Prop}(I:Nat→D→D→D→D→D→D→D→b7→Prop)
  (step:∀n x4 x5 x7 x8 x42 x43 x44 S,I n x4 x5 x7 x8 x42 x43 x44 S→a9i E w0 (fun x4 x5 x7 x8 x42 x43 x44 S=>∃m,m<n∧I m x4 x5 x7 x8 x42 x43 x44 S) Q x4 x5 x7 x8 x42 x43 x44 S)
  {n:Nat} {x4 x5 x7 x8 x42 x43 x44:D} {S:b7} (h:I n x4 x5 x7 x8 x42 x43 x44 S):j9 Try.prog E w0 (.loop a9c) (n9 200 [4,5,7,8,42,43,44] [x4,x5,x7,x8,x42,x43,x44]) S (b0d E w0 Q):=
 r0 (k:=200) (n:=n) (I:=fun n T S=>I n (T.getD 4 b8) (T.getD 5 b8) (T.getD 7 b8) (T.getD 8 b8) (T.getD 42 b8) (T.getD 43 b8) (T.getD 44 b8) S) (fun n T S hl hI=>r9 [4,5,7,8,42,43,44] hl (j9.mono (b9v (step n _ _ _ _ _ _ _ S hI)) fun ex T' S' _ hq=>by cases ex<;>exact hq)) (o3 ..) (Eq.mp (by kernel_rfl) h)
noncomputable def c3j:Code:=(l9 [1,1,0,1,0,1] (Try.f90.body.getD .skip))
def c0M(E:m7)(w0:o0)(Q:D→b7→Prop):r6→List D→b7→Prop:=
 (s8 0 (G7 Try.prog E w0 a0Y a1u a1b (l9 [1,1,1] (Try.f90.body.getD .skip)) (G8 Try.prog Try.f90 Q)))
def b4o(E:m7)(w0:o0)(Q:D→b7→Prop)(x2 x3 x4 x5 x25 x26:D)(S:b7):Prop:=
 j8 x26
 (a9 (j0 S 3 x3) fun v10=>
 a9 (m6 1 x2) fun v11=>
 a9 (b9 S v11) fun v12=>
 u6 S 1 (q9 1 (List.replicate 1 [(.int .u8 0)]) [(0,(.int .u8 6))]) 1 fun v13 S14=>
 o5 Try.prog E w0 a0c [v10,v12,v13] S14 fun v15 S16=>
 a9 (o9 v15 0) fun v17=>
 a9 (o9 v15 1) fun v18=>
 o6 S16 [(.int .u8 0),(.str []), .nilSlc,(.int .i64 0),(.int .i64 0)] fun v19 S20=>
 i9 S20 5 v19 v17 fun v21 S22=>
 a9 (m6 0 x2) fun v23=>
 a9 (b9 S22 v23) fun v24=>
 a9 (d8 .eql v24 (.int .u8 36)) fun v25=>
 j8 v25
 (a9 (m6 2 v19) fun v26=>
 a9 (b9 S22 v26) fun v27=>
 a9 (p7 v27) fun v28=>
 j9 Try.prog E w0 (.loop a9c) (n9 200 [4,5,7,8,42,43,44] [x4,x5,v18, .nilSlc,v27,v28,(.int .i64 0)]) S22 (b0d E w0 Q))
 (a9 (unD .not v18) fun v54=>
 a9 (f0 (d6 v54 false) (m6 2 x2)) fun v55=>
 a9 (f0 (d6 v54 false) (b9 S22 v55)) fun v56=>
 a9 (f0 (d6 v54 false) (m6 2 v19)) fun v57=>
 a9 (f0 (d6 v54 false) (b9 S22 v57)) fun v58=>
 a9 (f0 (d6 v54 false) (p7 v58)) fun v59=>
 a9 (f0 (d6 v54 false) (d8 .geq v56 v59)) fun v60=>
 a9 (t8 v54 (.bool true) v60) fun v61=>
 j8 v61
 (a9 (E6 (w6 [.nilSlc, .nilSlc,(.bool false)] [])) fun v62=>
 i9 S22 3 x4 v62 fun v63 S64=>
 a9 (j0 S64 3 x4) fun v65=>Q v65 S64)
 (a9 (m6 2 v19) fun v66=>
 a9 (b9 S22 v66) fun v67=>
 a9 (m6 2 x2) fun v68=>
 a9 (b9 S22 v68) fun v69=>
 a9 (A0 2 v67 v69) fun v70=>
 a9 (m6 1 v70) fun v71=>
 a9 (b9 S22 v71) fun v72=>
 a9 (m6 0 x2) fun v73=>
 a9 (b9 S22 v73) fun v74=>
 a9 (d8 .eql v74 (.int .u8 38)) fun v75=>
 j8 v75
 (u6 S22 1 (q9 1 (List.replicate 2 [(.int .i64 0)]) [(0,x5),(1,v72)]) 2 fun v76 S77=>
 o5 Try.prog E w0 s5 [v76] S77 fun v78 S79=>
 i9 S79 3 x4 v78 fun v80 S81=>
 a9 (j0 S81 3 x4) fun v82=>Q v82 S81)
 (u6 S22 1 (q9 1 (List.replicate 1 [(.int .i64 0)]) [(0,x5)]) 1 fun v83 S84=>
 o5 Try.prog E w0 s5 [v83] S84 fun v85 S86=>
 u6 S86 1 (q9 1 (List.replicate 1 [(.int .i64 0)]) [(0,v72)]) 1 fun v87 S88=>
 o5 Try.prog E w0 k9 [v85,v87] S88 fun v89 S90=>
 i9 S90 3 x4 v89 fun v91 S92=>
 a9 (j0 S92 3 x4) fun v93=>Q v93 S92))))
 (a9 (d8 .eql x25 (.int .u8 39)) fun v94=>
 j8 v94
 (a9 (j0 S 3 x3) fun v95=>
 a9 (m6 1 x2) fun v96=>
 a9 (b9 S v96) fun v97=>
 u6 S 1 (q9 1 (List.replicate 1 [(.int .u8 0)]) [(0,(.int .u8 7))]) 1 fun v98 S99=>
 o5 Try.prog E w0 a0c [v95,v97,v98] S99 fun v100 S101=>
 a9 (o9 v100 0) fun v102=>
 a9 (o9 v100 1) fun v103=>
 o6 S101 [(.int .u8 0),(.str []), .nilSlc,(.int .i64 0),(.int .i64 0)] fun v104 S105=>
 i9 S105 5 v104 v102 fun v106 S107=>
 a9 (m6 3 v104) fun v108=>
 a9 (b9 S107 v108) fun v109=>
 u6 S107 1 (q9 1 (List.replicate 1 [(.int .i64 0)]) [(0,v109)]) 1 fun v110 S111=>
 o5 Try.prog E w0 s5 [v110] S111 fun v112 S113=>
 u6 S113 1 (q9 1 (List.replicate 1 [(.int .i64 0)]) [(0,x5)]) 1 fun v114 S115=>
 o5 Try.prog E w0 k9 [v112,v114] S115 fun v116 S117=>
 o5 Try.prog E w0 r7 [v116,v103] S117 fun v118 S119=>
 i9 S119 3 x4 v118 fun v120 S121=>
 a9 (j0 S121 3 x4) fun v122=>Q v122 S121)
 (a9 (d8 .eql x25 (.int .u8 40)) fun v123=>
 j8 v123
 (a9 (j0 S 3 x3) fun v124=>
 a9 (m6 1 x2) fun v125=>
 a9 (b9 S v125) fun v126=>
 u6 S 1 (q9 1 (List.replicate 1 [(.int .u8 0)]) [(0,(.int .u8 8))]) 1 fun v127 S128=>
 o5 Try.prog E w0 a0c [v124,v126,v127] S128 fun v129 S130=>
 a9 (o9 v129 0) fun v131=>
 a9 (o9 v129 1) fun v132=>
 o6 S130 [(.int .u8 0),(.str []), .nilSlc,(.int .i64 0),(.int .i64 0)] fun v133 S134=>
 i9 S134 5 v133 v131 fun v135 S136=>
 o5 Try.prog E w0 s5 [.nilSlc] S136 fun v137 S138=>
 u6 S138 1 (q9 1 (List.replicate 1 [(.int .i64 0)]) [(0,x5)]) 1 fun v139 S140=>
 o5 Try.prog E w0 k9 [v137,v139] S140 fun v141 S142=>
 o5 Try.prog E w0 r7 [v141,v132] S142 fun v143 S144=>
 i9 S144 3 x4 v143 fun v145 S146=>
 a9 (j0 S146 3 x4) fun v147=>Q v147 S146)
 (a9 (d8 .eql x25 (.int .u8 44)) fun v148=>
 j8 v148
 (a9 (j0 S 3 x3) fun v149=>
 a9 (m6 1 x2) fun v150=>
 a9 (b9 S v150) fun v151=>
 u6 S 1 (q9 1 (List.replicate 1 [(.int .u8 0)]) [(0,(.int .u8 8))]) 1 fun v152 S153=>
 o5 Try.prog E w0 a0c [v149,v151,v152] S153 fun v154 S155=>
 a9 (o9 v154 0) fun v156=>
 a9 (o9 v154 1) fun v157=>
 o6 S155 [(.int .u8 0),(.str []), .nilSlc,(.int .i64 0),(.int .i64 0)] fun v158 S159=>
 i9 S159 5 v158 v156 fun v160 S161=>
 a9 (m6 3 v158) fun v162=>
 a9 (b9 S161 v162) fun v163=>
 u6 S161 1 (q9 1 (List.replicate 2 [(.int .i64 0)]) [(0,x5),(1,v163)]) 2 fun v164 S165=>
 o5 Try.prog E w0 s5 [v164] S165 fun v166 S167=>
 o5 Try.prog E w0 r7 [v166,v157] S167 fun v168 S169=>
 i9 S169 3 x4 v168 fun v170 S171=>
 a9 (j0 S171 3 x4) fun v172=>Q v172 S171)
 (a9 (d8 .eql x25 (.int .u8 45)) fun v173=>
 j8 v173
 (a9 (j0 S 3 x3) fun v174=>
 a9 (m6 1 x2) fun v175=>
 a9 (b9 S v175) fun v176=>
 u6 S 1 (q9 1 (List.replicate 1 [(.int .u8 0)]) [(0,(.int .u8 8))]) 1 fun v177 S178=>
 o5 Try.prog E w0 a0c [v174,v176,v177] S178 fun v179 S180=>
 a9 (o9 v179 0) fun v181=>
 a9 (o9 v179 1) fun v182=>
 o6 S180 [(.int .u8 0),(.str []), .nilSlc,(.int .i64 0),(.int .i64 0)] fun v183 S184=>
 i9 S184 5 v183 v181 fun v185 S186=>
 ((a9 (m6 3 v183) fun v187=>
 a9 (b9 S186 v187) fun v188=>
 u6 S186 1 (q9 1 (List.replicate 1 [(.int .i64 0)]) [(0,x5)]) 1 fun v189 S190=>
 t6 v187 S186 S190∧o5 Try.prog E w0 s5 [v189] S190 fun v191 S192=>
 t6 v187 S186 S192∧u6 S192 1 (q9 1 (List.replicate 1 [(.int .i64 0)]) [(0,v188)]) 1 fun v193 S194=>
 o5 Try.prog E w0 k9 [v191,v193] S194 fun v195 S196=>
 o5 Try.prog E w0 r7 [v195,v182] S196 fun v197 S198=>
 i9 S198 3 x4 v197 fun v199 S200=>
 a9 (j0 S200 3 x4) fun v201=>Q v201 S200)∧
 (a9 (m6 3 v183) fun v202=>
 a9 (b9 S186 v202) fun v203=>
 u6 S186 1 (q9 1 (List.replicate 1 [(.int .i64 0)]) [(0,x5)]) 1 fun v204 S205=>
 t6 v202 S186 S205∧u6 S205 1 (q9 1 (List.replicate 1 [(.int .i64 0)]) [(0,v203)]) 1 fun v206 S207=>
 o5 Try.prog E w0 s5 [v204] S207 fun v208 S209=>
 o5 Try.prog E w0 k9 [v208,v206] S209 fun v210 S211=>
 o5 Try.prog E w0 r7 [v210,v182] S211 fun v212 S213=>
 i9 S213 3 x4 v212 fun v214 S215=>
 a9 (j0 S215 3 x4) fun v216=>Q v216 S215))∧
 (a9 (m6 3 v183) fun v217=>
 a9 (b9 S186 v217) fun v218=>
 u6 S186 1 (q9 1 (List.replicate 1 [(.int .i64 0)]) [(0,v218)]) 1 fun v219 S220=>
 u6 S220 1 (q9 1 (List.replicate 1 [(.int .i64 0)]) [(0,x5)]) 1 fun v221 S222=>
 o5 Try.prog E w0 s5 [v221] S222 fun v223 S224=>
 o5 Try.prog E w0 k9 [v223,v219] S224 fun v225 S226=>
 o5 Try.prog E w0 r7 [v225,v182] S226 fun v227 S228=>
 i9 S228 3 x4 v227 fun v229 S230=>
 a9 (j0 S230 3 x4) fun v231=>Q v231 S230))
 (a9 (j0 S 3 x3) fun v232=>
 a9 (m6 1 x2) fun v233=>
 a9 (b9 S v233) fun v234=>
 u6 S 1 (q9 1 (List.replicate 2 [(.int .u8 0)]) [(0,(.int .u8 7)),(1,(.int .u8 8))]) 2 fun v235 S236=>
 o5 Try.prog E w0 a0c [v232,v234,v235] S236 fun v237 S238=>
 a9 (o9 v237 0) fun v239=>
 a9 (o9 v237 1) fun v240=>
 o6 S238 [(.int .u8 0),(.str []), .nilSlc,(.int .i64 0),(.int .i64 0)] fun v241 S242=>
 i9 S242 5 v241 v239 fun v243 S244=>
 a9 (m6 0 x2) fun v245=>
 a9 (b9 S244 v245) fun v246=>
 a9 (d8 .eql v246 (.int .u8 41)) fun v247=>
 j8 v247
 (((a9 (m6 3 v241) fun v248=>
 a9 (b9 S244 v248) fun v249=>
 u6 S244 1 (q9 1 (List.replicate 2 [(.int .i64 0)]) [(0,x5),(1,(.int .i64 3))]) 2 fun v250 S251=>
 t6 v248 S244 S251∧o5 Try.prog E w0 s5 [v250] S251 fun v252 S253=>
 t6 v248 S244 S253∧u6 S253 1 (q9 1 (List.replicate 1 [(.int .i64 0)]) [(0,v249)]) 1 fun v254 S255=>
 o5 Try.prog E w0 k9 [v252,v254] S255 fun v256 S257=>
 o5 Try.prog E w0 r7 [v256,v240] S257 fun v258 S259=>
 i9 S259 3 x4 v258 fun v260 S261=>
 a9 (j0 S261 3 x4) fun v262=>Q v262 S261)∧
 (a9 (m6 3 v241) fun v263=>
 a9 (b9 S244 v263) fun v264=>
 u6 S244 1 (q9 1 (List.replicate 2 [(.int .i64 0)]) [(0,x5),(1,(.int .i64 3))]) 2 fun v265 S266=>
 t6 v263 S244 S266∧u6 S266 1 (q9 1 (List.replicate 1 [(.int .i64 0)]) [(0,v264)]) 1 fun v267 S268=>
 o5 Try.prog E w0 s5 [v265] S268 fun v269 S270=>
 o5 Try.prog E w0 k9 [v269,v267] S270 fun v271 S272=>
 o5 Try.prog E w0 r7 [v271,v240] S272 fun v273 S274=>
 i9 S274 3 x4 v273 fun v275 S276=>
 a9 (j0 S276 3 x4) fun v277=>Q v277 S276))∧
 (a9 (m6 3 v241) fun v278=>
 a9 (b9 S244 v278) fun v279=>
 u6 S244 1 (q9 1 (List.replicate 1 [(.int .i64 0)]) [(0,v279)]) 1 fun v280 S281=>
 u6 S281 1 (q9 1 (List.replicate 2 [(.int .i64 0)]) [(0,x5),(1,(.int .i64 3))]) 2 fun v282 S283=>
 o5 Try.prog E w0 s5 [v282] S283 fun v284 S285=>
 o5 Try.prog E w0 k9 [v284,v280] S285 fun v286 S287=>
 o5 Try.prog E w0 r7 [v286,v240] S287 fun v288 S289=>
 i9 S289 3 x4 v288 fun v290 S291=>
 a9 (j0 S291 3 x4) fun v292=>Q v292 S291))
 (a9 (d8 .eql v246 (.int .u8 42)) fun v293=>
 j8 v293
 (a9 (m6 3 v241) fun v294=>
 a9 (b9 S244 v294) fun v295=>
 u6 S244 1 (q9 1 (List.replicate 3 [(.int .i64 0)]) [(0,x5),(1,(.int .i64 3)),(2,v295)]) 3 fun v296 S297=>
 o5 Try.prog E w0 s5 [v296] S297 fun v298 S299=>
 o5 Try.prog E w0 r7 [v298,v240] S299 fun v300 S301=>
 i9 S301 3 x4 v300 fun v302 S303=>
 a9 (j0 S303 3 x4) fun v304=>Q v304 S303)
 (u6 S244 1 (q9 1 (List.replicate 1 [(.int .i64 0)]) [(0,x5)]) 1 fun v305 S306=>
 o5 Try.prog E w0 s5 [v305] S306 fun v307 S308=>
 u6 S308 1 (q9 1 (List.replicate 1 [(.int .i64 0)]) [(0,(.int .i64 3))]) 1 fun v309 S310=>
 o5 Try.prog E w0 k9 [v307,v309] S310 fun v311 S312=>
 o5 Try.prog E w0 r7 [v311,v240] S312 fun v313 S314=>
 i9 S314 3 x4 v313 fun v315 S316=>
 a9 (j0 S316 3 x4) fun v317=>Q v317 S316)))))))
def a0F(E:m7)(w0:o0)(Q:D→b7→Prop)(x2 x3 x4 x5 x25 x26:D)(S:b7):Prop:=j9 Try.prog E w0 c3j (n9 200 [2,3,4,5,25,26] [x2,x3,x4,x5,x25,x26]) S (c0M E w0 Q)
theorem b7X{E:m7}{w0:o0}{Q:D→b7→Prop}{x2 x3 x4 x5 x25 x26:D}{S:b7}(h:b4o E w0 Q x2 x3 x4 x5 x25 x26 S):a0F E w0 Q x2 x3 x4 x5 x25 x26 S:=l8 a0Y a1u a1b o7 (by kernel_rfl) h
def c0D(E:m7)(w0:o0)(Q:D→b7→Prop)(a0 a1:D)(S:b7):Prop:=
 a9 (r4 a0) fun cs=>o6 S cs fun v0 S1=>
 a9 (r4 a1) fun cs=>o6 S1 cs fun v2 S3=>
 o6 S3 [.nilSlc, .nilSlc,(.bool false)] fun v4 S5=>
 a9 (m6 1 v0) fun v6=>
 a9 (b9 S5 v6) fun v7=>
 a9 (m6 0 v0) fun v8=>
 a9 (b9 S5 v8) fun v9=>
 a9 (d8 .eql v9 (.int .u8 36)) fun v318=>
 j8 v318
 (a0F E w0 Q v0 v2 v4 v7 v9 v318 S5)
 (a9 (d8 .eql v9 (.int .u8 37)) fun v319=>
 j8 v319
 (a0F E w0 Q v0 v2 v4 v7 v9 v319 S5)
 (a9 (d8 .eql v9 (.int .u8 38)) fun v320=>
 a0F E w0 Q v0 v2 v4 v7 v9 v320 S5))
theorem c2K{E:m7}{w0:o0}{Q:D→b7→Prop}{a0 a1:D}{S:b7}(h:c0D E w0 (d9 E Q) a0 a1 S):o5 Try.prog E w0 b4P [a0,a1] S Q:=
 m9 a0Y a1u a1b (fn:=Try.f90) (c:=Try.f90.body.getD .skip) o7 Try.func90 (by kernel_rfl) (by kernel_rfl) h
def D3:List (Nat×List Nat):=[]
def D1:List (Nat×List Nat):=[(25,[1,2,3,7,8]),(37,[1,2,3,7,18]),(57,[1,2,3,7,29]),(77,[1,2,3,7,40]),(105,[1,2,3,7,49]),(173,[2,3,7,107]),(197,[2,3,117])]
def D2:List (Nat×X5):=[(6,(.node 0 4 (.leaf [1,2,3,0,4,5,6]) (.leaf [1,2,3,4,0,5,6]))),(28,(.node 1 5 (.node 2 5 (.leaf [0,3,4,1,2,5,6,7]) (.leaf [0,3,4,1,5,2,6,7])) (.leaf [0,3,4,5,1,2,6,7])))]
noncomputable def b9c:Code:=(l9 [1,1,0,1,0,1,1,1,1,1,1,1,1,1,1,1,1,1,1,1,1,1,1,1,1,1,1,1,1,1,1,1,1,1,1,1,1,1] (Try.f91.body.getD .skip))
def b7K(E:m7)(w0:o0)(Q:D→b7→Prop):r6→List D→b7→Prop:=
 (s8 0 (G7 Try.prog E w0 D3 D1 D2 (l9 [1,1,1] (Try.f91.body.getD .skip)) (G8 Try.prog Try.f91 Q)))
def b0U(E:m7)(w0:o0)(Q:D→b7→Prop)(x2 x3 x117:D)(S:b7):Prop:=
 j8 x117
 (o5 Try.prog E w0 s5 [.nilSlc] S fun v219 S220=>
 i9 S220 3 x2 v219 fun v221 S222=>
 a9 (j0 S222 3 x2) fun v223=>Q v223 S222)
 (u6 S 1 (q9 1 (List.replicate 2 [(.int .i64 0)]) [(0,x3),(1,x3)]) 2 fun v224 S225=>
 o5 Try.prog E w0 s5 [v224] S225 fun v226 S227=>
 u6 S227 1 (q9 1 (List.replicate 1 [(.int .i64 0)]) [(0,x3)]) 1 fun v228 S229=>
 o5 Try.prog E w0 k9 [v226,v228] S229 fun v230 S231=>
 i9 S231 3 x2 v230 fun v232 S233=>
 a9 (j0 S233 3 x2) fun v234=>Q v234 S233)
def Q4(E:m7)(w0:o0)(Q:D→b7→Prop)(x2 x3 x117:D)(S:b7):Prop:=j9 Try.prog E w0 b9c (n9 129 [2,3,117] [x2,x3,x117]) S (b7K E w0 Q)
theorem b5q{E:m7}{w0:o0}{Q:D→b7→Prop}{x2 x3 x117:D}{S:b7}(h:b0U E w0 Q x2 x3 x117 S):Q4 E w0 Q x2 x3 x117 S:=l8 D3 D1 D2 o7 (by kernel_rfl) h
noncomputable def b9N:Code:=(l9 [1,1,0,1,0,1,1,1,1,1,1,1,1,1,1,1,1,1,1,1,1,1,1,1,1,1,1,1,1,1,1,1,1,1] (Try.f91.body.getD .skip))
def b7B(E:m7)(w0:o0)(Q:D→b7→Prop):r6→List D→b7→Prop:=
 (s8 0 (G7 Try.prog E w0 D3 D1 D2 (l9 [1,1,1] (Try.f91.body.getD .skip)) (G8 Try.prog Try.f91 Q)))
def b0M(E:m7)(w0:o0)(Q:D→b7→Prop)(x2 x3 x7 x107:D)(S:b7):Prop:=
 j8 x107
 (u6 S 1 (q9 1 (List.replicate 1 [(.int .i64 0)]) [(0,(.int .i64 4))]) 1 fun v204 S205=>
 o5 Try.prog E w0 s5 [v204] S205 fun v206 S207=>
 i9 S207 3 x2 v206 fun v208 S209=>
 a9 (j0 S209 3 x2) fun v210=>Q v210 S209)
 (a9 (d8 .eql x7 (.int .u8 49)) fun v211=>
 j8 v211
 (u6 S 1 (q9 1 (List.replicate 1 [(.int .i64 0)]) [(0,x3)]) 1 fun v212 S213=>
 o5 Try.prog E w0 s5 [v212] S213 fun v214 S215=>
 i9 S215 3 x2 v214 fun v216 S217=>
 a9 (j0 S217 3 x2) fun v218=>Q v218 S217)
 (a9 (d8 .eql x7 (.int .u8 46)) fun v235=>
 j8 v235
 (Q4 E w0 Q x2 x3 v235 S)
 (a9 (d8 .eql x7 (.int .u8 51)) fun v236=>
 j8 v236
 (Q4 E w0 Q x2 x3 v236 S)
 (a9 (d8 .eql x7 (.int .u8 52)) fun v237=>
 Q4 E w0 Q x2 x3 v237 S))))
def a0x(E:m7)(w0:o0)(Q:D→b7→Prop)(x2 x3 x7 x107:D)(S:b7):Prop:=j9 Try.prog E w0 b9N (n9 129 [2,3,7,107] [x2,x3,x7,x107]) S (b7B E w0 Q)
theorem b4J{E:m7}{w0:o0}{Q:D→b7→Prop}{x2 x3 x7 x107:D}{S:b7}(h:b0M E w0 Q x2 x3 x7 x107 S):a0x E w0 Q x2 x3 x7 x107 S:=l8 D3 D1 D2 o7 (by kernel_rfl) h
noncomputable def b9J:Code:=(l9 [1,1,0,1,0,1,1,1,1,1,1,1,1,1,1,1,1,1] (Try.f91.body.getD .skip))
def b7E(E:m7)(w0:o0)(Q:D→b7→Prop):r6→List D→b7→Prop:=
 (s8 0 (G7 Try.prog E w0 D3 D1 D2 (l9 [1,1,1] (Try.f91.body.getD .skip)) (G8 Try.prog Try.f91 Q)))
def b0N(E:m7)(w0:o0)(Q:D→b7→Prop)(x1 x2 x3 x7 x49:D)(S:b7):Prop:=
 j8 x49
 (u6 S 1 (q9 1 (List.replicate 2 [(.int .i64 0)]) [(0,x3),(1,x3)]) 2 fun v81 S82=>
 o5 Try.prog E w0 s5 [v81] S82 fun v83 S84=>
 u6 S84 1 (q9 1 (List.replicate 1 [(.int .i64 0)]) [(0,(.int .i64 4))]) 1 fun v85 S86=>
 o5 Try.prog E w0 k9 [v83,v85] S86 fun v87 S88=>
 i9 S88 3 x2 v87 fun v89 S90=>
 a9 (j0 S90 3 x2) fun v91=>Q v91 S90)
 (a9 (d8 .eql x7 (.int .u8 29)) fun v92=>
 j8 v92
 (((a9 (m6 2 x1) fun v93=>
 a9 (b9 S v93) fun v94=>
 u6 S 1 (q9 1 (List.replicate 1 [(.int .i64 0)]) [(0,x3)]) 1 fun v95 S96=>
 t6 v93 S S96∧o5 Try.prog E w0 s5 [v95] S96 fun v97 S98=>
 t6 v93 S S98∧u6 S98 1 (q9 1 (List.replicate 1 [(.int .i64 0)]) [(0,v94)]) 1 fun v99 S100=>
 o5 Try.prog E w0 k9 [v97,v99] S100 fun v101 S102=>
 i9 S102 3 x2 v101 fun v103 S104=>
 a9 (j0 S104 3 x2) fun v105=>Q v105 S104)∧
 (a9 (m6 2 x1) fun v106=>
 a9 (b9 S v106) fun v107=>
 u6 S 1 (q9 1 (List.replicate 1 [(.int .i64 0)]) [(0,x3)]) 1 fun v108 S109=>
 t6 v106 S S109∧u6 S109 1 (q9 1 (List.replicate 1 [(.int .i64 0)]) [(0,v107)]) 1 fun v110 S111=>
 o5 Try.prog E w0 s5 [v108] S111 fun v112 S113=>
 o5 Try.prog E w0 k9 [v112,v110] S113 fun v114 S115=>
 i9 S115 3 x2 v114 fun v116 S117=>
 a9 (j0 S117 3 x2) fun v118=>Q v118 S117))∧
 (a9 (m6 2 x1) fun v119=>
 a9 (b9 S v119) fun v120=>
 u6 S 1 (q9 1 (List.replicate 1 [(.int .i64 0)]) [(0,v120)]) 1 fun v121 S122=>
 u6 S122 1 (q9 1 (List.replicate 1 [(.int .i64 0)]) [(0,x3)]) 1 fun v123 S124=>
 o5 Try.prog E w0 s5 [v123] S124 fun v125 S126=>
 o5 Try.prog E w0 k9 [v125,v121] S126 fun v127 S128=>
 i9 S128 3 x2 v127 fun v129 S130=>
 a9 (j0 S130 3 x2) fun v131=>Q v131 S130))
 (a9 (d8 .eql x7 (.int .u8 30)) fun v132=>
 j8 v132
 (u6 S 1 (q9 1 (List.replicate 1 [(.int .i64 0)]) [(0,(.int .i64 4))]) 1 fun v133 S134=>
 o5 Try.prog E w0 s5 [v133] S134 fun v135 S136=>
 u6 S136 1 (q9 1 (List.replicate 1 [(.int .i64 0)]) [(0,(.int .i64 4))]) 1 fun v137 S138=>
 o5 Try.prog E w0 k9 [v135,v137] S138 fun v139 S140=>
 i9 S140 3 x2 v139 fun v141 S142=>
 a9 (j0 S142 3 x2) fun v143=>Q v143 S142)
 (a9 (d8 .eql x7 (.int .u8 31)) fun v144=>
 j8 v144
 (u6 S 1 (q9 1 (List.replicate 2 [(.int .i64 0)]) [(0,(.int .i64 5)),(1,(.int .i64 5))]) 2 fun v145 S146=>
 o5 Try.prog E w0 s5 [v145] S146 fun v147 S148=>
 u6 S148 1 (q9 1 (List.replicate 1 [(.int .i64 0)]) [(0,(.int .i64 5))]) 1 fun v149 S150=>
 o5 Try.prog E w0 k9 [v147,v149] S150 fun v151 S152=>
 i9 S152 3 x2 v151 fun v153 S154=>
 a9 (j0 S154 3 x2) fun v155=>Q v155 S154)
 (a9 (d8 .eql x7 (.int .u8 32)) fun v156=>
 j8 v156
 (u6 S 1 (q9 1 (List.replicate 1 [(.int .i64 0)]) [(0,(.int .i64 5))]) 1 fun v157 S158=>
 o5 Try.prog E w0 s5 [v157] S158 fun v159 S160=>
 u6 S160 1 (q9 1 (List.replicate 1 [(.int .i64 0)]) [(0,(.int .i64 3))]) 1 fun v161 S162=>
 o5 Try.prog E w0 k9 [v159,v161] S162 fun v163 S164=>
 i9 S164 3 x2 v163 fun v165 S166=>
 a9 (j0 S166 3 x2) fun v167=>Q v167 S166)
 (a9 (d8 .eql x7 (.int .u8 33)) fun v168=>
 j8 v168
 (u6 S 1 (q9 1 (List.replicate 2 [(.int .i64 0)]) [(0,(.int .i64 5)),(1,(.int .i64 3))]) 2 fun v169 S170=>
 o5 Try.prog E w0 s5 [v169] S170 fun v171 S172=>
 u6 S172 1 (q9 1 (List.replicate 1 [(.int .i64 0)]) [(0,(.int .i64 2))]) 1 fun v173 S174=>
 o5 Try.prog E w0 k9 [v171,v173] S174 fun v175 S176=>
 i9 S176 3 x2 v175 fun v177 S178=>
 a9 (j0 S178 3 x2) fun v179=>Q v179 S178)
 (a9 (d8 .eql x7 (.int .u8 34)) fun v180=>
 j8 v180
 (u6 S 1 (q9 1 (List.replicate 3 [(.int .i64 0)]) [(0,(.int .i64 5)),(1,(.int .i64 3)),(2,(.int .i64 3))]) 3 fun v181 S182=>
 o5 Try.prog E w0 s5 [v181] S182 fun v183 S184=>
 u6 S184 1 (q9 1 (List.replicate 1 [(.int .i64 0)]) [(0,(.int .i64 5))]) 1 fun v185 S186=>
 o5 Try.prog E w0 k9 [v183,v185] S186 fun v187 S188=>
 i9 S188 3 x2 v187 fun v189 S190=>
 a9 (j0 S190 3 x2) fun v191=>Q v191 S190)
 (a9 (d8 .eql x7 (.int .u8 35)) fun v192=>
 j8 v192
 (u6 S 1 (q9 1 (List.replicate 1 [(.int .i64 0)]) [(0,(.int .i64 2))]) 1 fun v193 S194=>
 o5 Try.prog E w0 s5 [v193] S194 fun v195 S196=>
 u6 S196 1 (q9 1 (List.replicate 1 [(.int .i64 0)]) [(0,(.int .i64 5))]) 1 fun v197 S198=>
 o5 Try.prog E w0 k9 [v195,v197] S198 fun v199 S200=>
 i9 S200 3 x2 v199 fun v201 S202=>
 a9 (j0 S202 3 x2) fun v203=>Q v203 S202)
 (a9 (d8 .eql x7 (.int .u8 47)) fun v238=>
 j8 v238
 (a0x E w0 Q x2 x3 x7 v238 S)
 (a9 (d8 .eql x7 (.int .u8 48)) fun v239=>
 a0x E w0 Q x2 x3 x7 v239 S)))))))))
def G4(E:m7)(w0:o0)(Q:D→b7→Prop)(x1 x2 x3 x7 x49:D)(S:b7):Prop:=j9 Try.prog E w0 b9J (n9 129 [1,2,3,7,49] [x1,x2,x3,x7,x49]) S (b7E E w0 Q)
theorem b4u{E:m7}{w0:o0}{Q:D→b7→Prop}{x1 x2 x3 x7 x49:D}{S:b7}(h:b0N E w0 Q x1 x2 x3 x7 x49 S):G4 E w0 Q x1 x2 x3 x7 x49 S:=l8 D3 D1 D2 o7 (by kernel_rfl) h
noncomputable def c1I:Code:=(l9 [1,1,0,1,0,1,1,1,1,1,1,1,1,1,1,1] (Try.f91.body.getD .skip))
def c0f(E:m7)(w0:o0)(Q:D→b7→Prop):r6→List D→b7→Prop:=
 (s8 0 (G7 Try.prog E w0 D3 D1 D2 (l9 [1,1,1] (Try.f91.body.getD .skip)) (G8 Try.prog Try.f91 Q)))
def b2T(E:m7)(w0:o0)(Q:D→b7→Prop)(x1 x2 x3 x7 x40:D)(S:b7):Prop:=
 j8 x40
 (u6 S 1 (q9 1 (List.replicate 1 [(.int .i64 0)]) [(0,x3)]) 1 fun v70 S71=>
 o5 Try.prog E w0 s5 [v70] S71 fun v72 S73=>
 u6 S73 1 (q9 1 (List.replicate 1 [(.int .i64 0)]) [(0,x3)]) 1 fun v74 S75=>
 o5 Try.prog E w0 k9 [v72,v74] S75 fun v76 S77=>
 i9 S77 3 x2 v76 fun v78 S79=>
 a9 (j0 S79 3 x2) fun v80=>Q v80 S79)
 (a9 (d8 .eql x7 (.int .u8 23)) fun v240=>
 j8 v240
 (G4 E w0 Q x1 x2 x3 x7 v240 S)
 (a9 (d8 .eql x7 (.int .u8 24)) fun v241=>
 j8 v241
 (G4 E w0 Q x1 x2 x3 x7 v241 S)
 (a9 (d8 .eql x7 (.int .u8 25)) fun v242=>
 j8 v242
 (G4 E w0 Q x1 x2 x3 x7 v242 S)
 (a9 (d8 .eql x7 (.int .u8 26)) fun v243=>
 j8 v243
 (G4 E w0 Q x1 x2 x3 x7 v243 S)
 (a9 (d8 .eql x7 (.int .u8 27)) fun v244=>
 j8 v244
 (G4 E w0 Q x1 x2 x3 x7 v244 S)
 (a9 (d8 .eql x7 (.int .u8 28)) fun v245=>
 G4 E w0 Q x1 x2 x3 x7 v245 S))))))
def a1e(E:m7)(w0:o0)(Q:D→b7→Prop)(x1 x2 x3 x7 x40:D)(S:b7):Prop:=j9 Try.prog E w0 c1I (n9 129 [1,2,3,7,40] [x1,x2,x3,x7,x40]) S (c0f E w0 Q)
theorem b6B{E:m7}{w0:o0}{Q:D→b7→Prop}{x1 x2 x3 x7 x40:D}{S:b7}(h:b2T E w0 Q x1 x2 x3 x7 x40 S):a1e E w0 Q x1 x2 x3 x7 x40 S:=l8 D3 D1 D2 o7 (by kernel_rfl) h
noncomputable def c0L:Code:=(l9 [1,1,0,1,0,1,1,1,1,1,1,1] (Try.f91.body.getD .skip))
def b9B(E:m7)(w0:o0)(Q:D→b7→Prop):r6→List D→b7→Prop:=
 (s8 0 (G7 Try.prog E w0 D3 D1 D2 (l9 [1,1,1] (Try.f91.body.getD .skip)) (G8 Try.prog Try.f91 Q)))
def b2o(E:m7)(w0:o0)(Q:D→b7→Prop)(x1 x2 x3 x7 x29:D)(S:b7):Prop:=
 j8 x29
 (u6 S 1 (q9 1 (List.replicate 1 [(.int .i64 0)]) [(0,(.int .i64 0))]) 1 fun v51 S52=>
 o5 Try.prog E w0 s5 [v51] S52 fun v53 S54=>
 i9 S54 3 x2 v53 fun v55 S56=>
 a9 (j0 S56 3 x2) fun v57=>Q v57 S56)
 (a9 (d8 .eql x7 (.int .u8 10)) fun v58=>
 j8 v58
 (u6 S 1 (q9 1 (List.replicate 1 [(.int .i64 0)]) [(0,(.int .i64 0))]) 1 fun v59 S60=>
 o5 Try.prog E w0 s5 [v59] S60 fun v61 S62=>
 u6 S62 1 (q9 1 (List.replicate 2 [(.int .i64 0)]) [(0,(.int .i64 0)),(1,(.int .i64 0))]) 2 fun v63 S64=>
 o5 Try.prog E w0 k9 [v61,v63] S64 fun v65 S66=>
 i9 S66 3 x2 v65 fun v67 S68=>
 a9 (j0 S68 3 x2) fun v69=>Q v69 S68)
 (a9 (d8 .eql x7 (.int .u8 21)) fun v246=>
 j8 v246
 (a1e E w0 Q x1 x2 x3 x7 v246 S)
 (a9 (d8 .eql x7 (.int .u8 22)) fun v247=>
 a1e E w0 Q x1 x2 x3 x7 v247 S)))
def a1d(E:m7)(w0:o0)(Q:D→b7→Prop)(x1 x2 x3 x7 x29:D)(S:b7):Prop:=j9 Try.prog E w0 c0L (n9 129 [1,2,3,7,29] [x1,x2,x3,x7,x29]) S (b9B E w0 Q)
theorem b6d{E:m7}{w0:o0}{Q:D→b7→Prop}{x1 x2 x3 x7 x29:D}{S:b7}(h:b2o E w0 Q x1 x2 x3 x7 x29 S):a1d E w0 Q x1 x2 x3 x7 x29 S:=l8 D3 D1 D2 o7 (by kernel_rfl) h
noncomputable def c2a:Code:=(l9 [1,1,0,1,0,1,1,1] (Try.f91.body.getD .skip))
def b9O(E:m7)(w0:o0)(Q:D→b7→Prop):r6→List D→b7→Prop:=
 (s8 0 (G7 Try.prog E w0 D3 D1 D2 (l9 [1,1,1] (Try.f91.body.getD .skip)) (G8 Try.prog Try.f91 Q)))
def b2H(E:m7)(w0:o0)(Q:D→b7→Prop)(x1 x2 x3 x7 x18:D)(S:b7):Prop:=
 j8 x18
 (o5 Try.prog E w0 s5 [.nilSlc] S fun v32 S33=>
 u6 S33 1 (q9 1 (List.replicate 1 [(.int .i64 0)]) [(0,(.int .i64 4))]) 1 fun v34 S35=>
 o5 Try.prog E w0 k9 [v32,v34] S35 fun v36 S37=>
 i9 S37 3 x2 v36 fun v38 S39=>
 a9 (j0 S39 3 x2) fun v40=>Q v40 S39)
 (a9 (d8 .eql x7 (.int .u8 7)) fun v41=>
 j8 v41
 (o5 Try.prog E w0 s5 [.nilSlc] S fun v42 S43=>
 u6 S43 1 (q9 1 (List.replicate 1 [(.int .i64 0)]) [(0,(.int .i64 0))]) 1 fun v44 S45=>
 o5 Try.prog E w0 k9 [v42,v44] S45 fun v46 S47=>
 i9 S47 3 x2 v46 fun v48 S49=>
 a9 (j0 S49 3 x2) fun v50=>Q v50 S49)
 (a9 (d8 .eql x7 (.int .u8 8)) fun v248=>
 j8 v248
 (a1d E w0 Q x1 x2 x3 x7 v248 S)
 (a9 (d8 .eql x7 (.int .u8 9)) fun v249=>
 a1d E w0 Q x1 x2 x3 x7 v249 S)))
def a1a(E:m7)(w0:o0)(Q:D→b7→Prop)(x1 x2 x3 x7 x18:D)(S:b7):Prop:=j9 Try.prog E w0 c2a (n9 129 [1,2,3,7,18] [x1,x2,x3,x7,x18]) S (b9O E w0 Q)
theorem b5Q{E:m7}{w0:o0}{Q:D→b7→Prop}{x1 x2 x3 x7 x18:D}{S:b7}(h:b2H E w0 Q x1 x2 x3 x7 x18 S):a1a E w0 Q x1 x2 x3 x7 x18 S:=l8 D3 D1 D2 o7 (by kernel_rfl) h
noncomputable def c0Z:Code:=(l9 [1,1,0,1,0,1] (Try.f91.body.getD .skip))
def b9y(E:m7)(w0:o0)(Q:D→b7→Prop):r6→List D→b7→Prop:=
 (s8 0 (G7 Try.prog E w0 D3 D1 D2 (l9 [1,1,1] (Try.f91.body.getD .skip)) (G8 Try.prog Try.f91 Q)))
def b1H(E:m7)(w0:o0)(Q:D→b7→Prop)(x1 x2 x3 x7 x8:D)(S:b7):Prop:=
 j8 x8
 ((a9 (m6 0 x1) fun v8=>
 a9 (b9 S v8) fun v9=>
 a9 (I8 .i64 v9) fun v10=>
 o5 Try.prog E w0 s5 [.nilSlc] S fun v11 S12=>
 t6 v8 S S12∧u6 S12 1 (q9 1 (List.replicate 1 [(.int .i64 0)]) [(0,v10)]) 1 fun v13 S14=>
 o5 Try.prog E w0 k9 [v11,v13] S14 fun v15 S16=>
 i9 S16 3 x2 v15 fun v17 S18=>
 a9 (j0 S18 3 x2) fun v19=>Q v19 S18)∧
 (a9 (m6 0 x1) fun v20=>
 a9 (b9 S v20) fun v21=>
 a9 (I8 .i64 v21) fun v22=>
 u6 S 1 (q9 1 (List.replicate 1 [(.int .i64 0)]) [(0,v22)]) 1 fun v23 S24=>
 o5 Try.prog E w0 s5 [.nilSlc] S24 fun v25 S26=>
 o5 Try.prog E w0 k9 [v25,v23] S26 fun v27 S28=>
 i9 S28 3 x2 v27 fun v29 S30=>
 a9 (j0 S30 3 x2) fun v31=>Q v31 S30))
 (a9 (d8 .eql x7 (.int .u8 4)) fun v250=>
 j8 v250
 (a1a E w0 Q x1 x2 x3 x7 v250 S)
 (a9 (d8 .eql x7 (.int .u8 5)) fun v251=>
 a1a E w0 Q x1 x2 x3 x7 v251 S))
def a0a(E:m7)(w0:o0)(Q:D→b7→Prop)(x1 x2 x3 x7 x8:D)(S:b7):Prop:=j9 Try.prog E w0 c0Z (n9 129 [1,2,3,7,8] [x1,x2,x3,x7,x8]) S (b9y E w0 Q)
theorem b5S{E:m7}{w0:o0}{Q:D→b7→Prop}{x1 x2 x3 x7 x8:D}{S:b7}(h:b1H E w0 Q x1 x2 x3 x7 x8 S):a0a E w0 Q x1 x2 x3 x7 x8 S:=l8 D3 D1 D2 o7 (by kernel_rfl) h
def b8W(E:m7)(w0:o0)(Q:D→b7→Prop)(a0:D)(S:b7):Prop:=
 a9 (r4 a0) fun cs=>o6 S cs fun v0 S1=>
 o6 S1 [.nilSlc, .nilSlc,(.bool false)] fun v2 S3=>
 a9 (m6 1 v0) fun v4=>
 a9 (b9 S3 v4) fun v5=>
 a9 (m6 0 v0) fun v6=>
 a9 (b9 S3 v6) fun v7=>
 a9 (d8 .eql v7 (.int .u8 1)) fun v252=>
 j8 v252
 (a0a E w0 Q v0 v2 v5 v7 v252 S3)
 (a9 (d8 .eql v7 (.int .u8 2)) fun v253=>
 j8 v253
 (a0a E w0 Q v0 v2 v5 v7 v253 S3)
 (a9 (d8 .eql v7 (.int .u8 3)) fun v254=>
 a0a E w0 Q v0 v2 v5 v7 v254 S3))
theorem c1g{E:m7}{w0:o0}{Q:D→b7→Prop}{a0:D}{S:b7}(h:b8W E w0 (d9 E Q) a0 S):o5 Try.prog E w0 b1W [a0] S Q:=
 m9 D3 D1 D2 (fn:=Try.f91) (c:=Try.f91.body.getD .skip) o7 Try.func91 (by kernel_rfl) (by kernel_rfl) h
def b7i:List (Nat×List Nat):=[]
def b6e:List (Nat×List Nat):=[(26,[7])]
def b6m:List (Nat×X5):=[(6,(.node 0 1 (.leaf [3,4,5,6,7,8,0,1,2,9,10]) (.leaf [3,4,5,6,7,8,1,0,2,9,10]))),(10,(.leaf [0,1,4,5,2,3,6,7,8]))]
noncomputable def c1H:Code:=(l9 [1,1,1,1] (Try.f77.body.getD .skip))
def b9Q(E:m7)(w0:o0)(Q:D→b7→Prop):r6→List D→b7→Prop:=
 (G8 Try.prog Try.f77 Q)
def b1Q(E:m7)(w0:o0)(Q:D→b7→Prop)(x7:D)(S:b7):Prop:=
 a9 (m6 2 x7) fun v10=>
 a9 (b9 S v10) fun v11=>
 a9 (unD .not v11) fun v12=>
 j8 v12
 (Q (.tup [.nilSlc, .nilSlc,(.int .i64 2)]) S)
 (a9 (m6 0 x7) fun v13=>
 a9 (b9 S v13) fun v14=>
 a9 (m6 1 x7) fun v15=>
 a9 (b9 S v15) fun v16=>
 Q (.tup [v14,v16,(.int .i64 0)]) S)
def I6(E:m7)(w0:o0)(Q:D→b7→Prop)(x7:D)(S:b7):Prop:=j9 Try.prog E w0 c1H (n9 71 [7] [x7]) S (b9Q E w0 Q)
theorem b5R{E:m7}{w0:o0}{Q:D→b7→Prop}{x7:D}{S:b7}(h:b1Q E w0 Q x7 S):I6 E w0 Q x7 S:=l8 b7i b6e b6m o7 (by kernel_rfl) h
def b8I(E:m7)(w0:o0)(Q:D→b7→Prop)(a0 a1:D)(S:b7):Prop:=
 a9 (r4 a0) fun cs=>o6 S cs fun v0 S1=>
 a9 (r4 a1) fun cs=>o6 S1 cs fun v2 S3=>
 a9 (j0 S3 4 v0) fun v4=>
 o5 Try.prog E w0 b5r [v4] S3 fun v5 S6=>
 a9 (d8 .eql v5 (.int .i64 0)) fun v7=>
 j8 v7
 (Q (.tup [.nilSlc, .nilSlc,(.int .i64 120)]) S6)
 (o6 S6 [.nilSlc, .nilSlc,(.bool false)] fun v8 S9=>
 a9 (m6 0 v0) fun v17=>
 a9 (b9 S9 v17) fun v18=>
 a9 (d8 .eql v18 (.int .u8 6)) fun v19=>
 j8 v19
 ((a9 (m6 1 v0) fun v20=>
 a9 (b9 S9 v20) fun v21=>
 a9 (m6 1 v2) fun v22=>
 a9 (b9 S9 v22) fun v23=>
 a9 (p7 v23) fun v24=>
 a9 (d8 .lss v21 v24) fun v25=>
 o5 Try.prog E w0 s5 [.nilSlc] S9 fun v26 S27=>
 t6 v20 S9 S27∧t6 v22 S9 S27∧u6 S27 1 (q9 1 (List.replicate 1 [(.int .i64 0)]) [(0,(.int .i64 5))]) 1 fun v28 S29=>
 t6 v20 S9 S29∧t6 v22 S9 S29∧o5 Try.prog E w0 k9 [v26,v28] S29 fun v30 S31=>
 t6 v20 S9 S31∧t6 v22 S9 S31∧o5 Try.prog E w0 r7 [v30,v25] S31 fun v32 S33=>
 i9 S33 3 v8 v32 fun v34 S35=>
 I6 E w0 Q v8 S35)∧
 (a9 (m6 1 v0) fun v36=>
 a9 (b9 S9 v36) fun v37=>
 a9 (m6 1 v2) fun v38=>
 a9 (b9 S9 v38) fun v39=>
 a9 (p7 v39) fun v40=>
 a9 (d8 .lss v37 v40) fun v41=>
 u6 S9 1 (q9 1 (List.replicate 1 [(.int .i64 0)]) [(0,(.int .i64 5))]) 1 fun v42 S43=>
 t6 v36 S9 S43∧t6 v38 S9 S43∧o5 Try.prog E w0 s5 [.nilSlc] S43 fun v44 S45=>
 t6 v36 S9 S45∧t6 v38 S9 S45∧o5 Try.prog E w0 k9 [v44,v42] S45 fun v46 S47=>
 t6 v36 S9 S47∧t6 v38 S9 S47∧o5 Try.prog E w0 r7 [v46,v41] S47 fun v48 S49=>
 i9 S49 3 v8 v48 fun v50 S51=>
 I6 E w0 Q v8 S51))
 (a9 (m6 0 v0) fun v52=>
 a9 (b9 S9 v52) fun v53=>
 a9 (d8 .eql v53 (.int .u8 50)) fun v54=>
 j8 v54
 (a9 (m6 1 v0) fun v55=>
 a9 (b9 S9 v55) fun v56=>
 a9 (m6 2 v2) fun v57=>
 a9 (b9 S9 v57) fun v58=>
 a9 (p7 v58) fun v59=>
 a9 (d8 .lss v56 v59) fun v60=>
 j8 v60
 (a9 (m6 2 v2) fun v61=>
 a9 (b9 S9 v61) fun v62=>
 a9 (m6 1 v0) fun v63=>
 a9 (b9 S9 v63) fun v64=>
 a9 (A0 6 v62 v64) fun v65=>
 a9 (j0 S9 6 v65) fun v66=>
 o6 S9 [(.str []), .nilSlc, .nilSlc,(.int .i64 0),(.int .i64 0), .nilSlc] fun v67 S68=>
 i9 S68 6 v67 v66 fun v69 S70=>
 a9 (m6 1 v67) fun v71=>
 a9 (b9 S70 v71) fun v72=>
 a9 (m6 2 v67) fun v73=>
 a9 (b9 S70 v73) fun v74=>
 o5 Try.prog E w0 O9 [v72] S70 fun v75 S76=>
 t6 v73 S70 S76∧o5 Try.prog E w0 s5 [v75] S76 fun v77 S78=>
 t6 v73 S70 S78∧o5 Try.prog E w0 O9 [v74] S78 fun v79 S80=>
 o5 Try.prog E w0 k9 [v77,v79] S80 fun v81 S82=>
 i9 S82 3 v8 v81 fun v83 S84=>
 I6 E w0 Q v8 S84)
 (I6 E w0 Q v8 S9))
 (a9 (m6 0 v0) fun v85=>
 a9 (b9 S9 v85) fun v86=>
 a9 (d8 .geq v86 (.int .u8 36)) fun v87=>
 a9 (f0 (d6 v87 true) (m6 0 v0)) fun v88=>
 a9 (f0 (d6 v87 true) (b9 S9 v88)) fun v89=>
 a9 (f0 (d6 v87 true) (d8 .leq v89 (.int .u8 45))) fun v90=>
 a9 (t8 v87 v90 (.bool false)) fun v91=>
 j8 v91
 (a9 (j0 S9 4 v0) fun v92=>
 a9 (j0 S9 3 v2) fun v93=>
 o5 Try.prog E w0 b4P [v92,v93] S9 fun v94 S95=>
 i9 S95 3 v8 v94 fun v96 S97=>
 I6 E w0 Q v8 S97)
 (a9 (j0 S9 4 v0) fun v98=>
 o5 Try.prog E w0 b1W [v98] S9 fun v99 S100=>
 i9 S100 3 v8 v99 fun v101 S102=>
 I6 E w0 Q v8 S102))))
theorem c2i{E:m7}{w0:o0}{Q:D→b7→Prop}{a0 a1:D}{S:b7}(h:b8I E w0 (d9 E Q) a0 a1 S):o5 Try.prog E w0 a7z [a0,a1] S Q:=
 m9 b7i b6e b6m (fn:=Try.f77) (c:=Try.f77.body.getD .skip) o7 Try.func77 (by kernel_rfl) (by kernel_rfl) h
def b3P:List (Nat×List Nat):=[]
def b3M:List (Nat×List Nat):=[]
def b3V:List (Nat×X5):=[]
def a2g(E:m7)(w0:o0)(Q:D→b7→Prop)(a0:D)(S:b7):Prop:=
 a9 (b1g .eql (c6Q a0 .nilSlc)) fun v0=>
 j8 v0
 (Q .nilSlc S)
 (u6 S 1 (q9 1 (List.replicate 0 [(.int .i64 0)]) []) 0 fun v1 S2=>
 A1 S2 1 8 v1 a0 fun v3 S4=>
 Q v3 S4)
theorem a3B{E:m7}{w0:o0}{Q:D→b7→Prop}{a0:D}{S:b7}(h:a2g E w0 (d9 E Q) a0 S):o5 Try.prog E w0 O9 [a0] S Q:=
 m9 b3P b3M b3V (fn:=Try.f89) (c:=Try.f89.body.getD .skip) o7 Try.func89 (by kernel_rfl) (by kernel_rfl) h
def a7X:List (Nat×List Nat):=[]
def a7T:List (Nat×List Nat):=[]
def a7W:List (Nat×X5):=[]
def a2C(E:m7)(w0:o0)(Q:D→b7→Prop)(a0 a1:D)(S:b7):Prop:=
 o5 Try.prog E w0 a1r [a0,a1] S fun v0 S1=>
 a9 (d8 .geq v0 (.int .i64 0)) fun v2=>
 Q v2 S1
theorem a5Q{E:m7}{w0:o0}{Q:D→b7→Prop}{a0 a1:D}{S:b7}(h:a2C E w0 (d9 E Q) a0 a1 S):o5 Try.prog E w0 Z6 [a0,a1] S Q:=
 m9 a7X a7T a7W (fn:=Try.f99) (c:=Try.f99.body.getD .skip) o7 Try.func99 (by kernel_rfl) (by kernel_rfl) h
def a0O:List (Nat×List Nat):=[(4,[0,1,7,8])]
def a0M:List (Nat×List Nat):=[]
def a0Q:List (Nat×X5):=[]
noncomputable def a0m:Code:=(l9 [1,0,1,0,0] (Try.f100.body.getD .skip))
def a0q(E:m7)(w0:o0)(Q:D→b7→Prop):r6→List D→b7→Prop:=
 (s8 0 (G7 Try.prog E w0 a0O a0M a0Q (l9 [1,1] (Try.f100.body.getD .skip)) (G8 Try.prog Try.f100 Q)))
def a0s(E:m7)(w0:o0)(N0:D→D→D→D→b7→Prop)(Q:D→b7→Prop)(x0 x1 x7 x8:D)(S:b7):Prop:=
 a9 (d8 .lss x8 x7) fun v1=>
 j8 v1
 (a9 (A0 1 x0 x8) fun v2=>
 a9 (b9 S v2) fun v3=>
 a9 (d8 .eql x1 v3) fun v4=>
 j8 v4
 (Q x8 S)
 (a9 (d8 .add x8 (.int .i64 1)) fun v5=>
 N0 x0 x1 x7 v5 S))
 (Q (.int .i64 (-1)) S)
theorem a7k{E:m7}{w0:o0}{N0:D→D→D→D→b7→Prop}{Q:D→b7→Prop}{x0 x1 x7 x8:D}{S:b7}(h:a0s E w0 N0 Q x0 x1 x7 x8 S):
  j9 Try.prog E w0 a0m (n9 19 [0,1,7,8] [x0,x1,x7,x8]) S (A8 (fun T S=>N0 (T.getD 0 b8) (T.getD 1 b8) (T.getD 7 b8) (T.getD 8 b8) S) (a0q E w0 Q)):=l8 a0O a0M a0Q o7 (by kernel_rfl) h
theorem a7d{E:m7}{w0:o0}{Q:D→b7→Prop}(I:Nat→D→D→D→D→b7→Prop)
  (step:∀n x0 x1 x7 x8 S,I n x0 x1 x7 x8 S→a0s E w0 (fun x0 x1 x7 x8 S=>∃m,m<n∧I m x0 x1 x7 x8 S) Q x0 x1 x7 x8 S)
  {n:Nat} {x0 x1 x7 x8:D} {S:b7} (h:I n x0 x1 x7 x8 S):j9 Try.prog E w0 (.loop a0m) (n9 19 [0,1,7,8] [x0,x1,x7,x8]) S (a0q E w0 Q):=
 r0 (k:=19) (n:=n) (I:=fun n T S=>I n (T.getD 0 b8) (T.getD 1 b8) (T.getD 7 b8) (T.getD 8 b8) S) (fun n T S hl hI=>r9 [0,1,7,8] hl (j9.mono (a7k (step n _ _ _ _ S hI)) fun ex T' S' _ hq=>by cases ex<;>exact hq)) (o3 ..) (Eq.mp (by kernel_rfl) h)
def a4K(E:m7)(w0:o0)(Q:D→b7→Prop)(a0 a1:D)(S:b7):Prop:=
 a9 (p7 a0) fun v0=>
 j9 Try.prog E w0 (.loop a0m) (n9 19 [0,1,7,8] [a0,a1,v0,(.int .i64 0)]) S (a0q E w0 Q)
theorem a8u{E:m7}{w0:o0}{Q:D→b7→Prop}{a0 a1:D}{S:b7}(h:a4K E w0 (d9 E Q) a0 a1 S):o5 Try.prog E w0 a1r [a0,a1] S Q:=
 m9 a0O a0M a0Q (fn:=Try.f100) (c:=Try.f100.body.getD .skip) o7 Try.func100 (by kernel_rfl) (by kernel_rfl) h
end Go.Proofs.Ytchnpgddpaonhaa.d
end
