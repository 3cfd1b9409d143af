/-
  ImageSpoiltSaid: part Pbc of its proof.
-/
import Derived.Test.YtchnpgddpaonhaaPba
import Derived.Test.YtchnpgddpaonhaaPbb
set_option linter.unusedVariables false
set_option linter.unusedSimpArgs false
set_option maxRecDepth 100000
section
open Go.Proofs Go Go.Am Go.Op
namespace Go.Proofs.Ytchnpgddpaonhaa.d
section
def bytesOf(s:Tx):List Int:=s.map fun b=>(b.toNat:Int)
def X1(s:Tx):List Int:=F7 s.length++bytesOf s
def a4E(l:List Int):List Int:=F7 l.length++l.flatMap F7
def b0T(f:Tx×Int):List Int:=X1 f.1++F7 f.2
def tyB(t:Ty):List Int:=t.kind::if t.kind=6 then X1 t.name++(F7 t.fields.length++t.fields.flatMap b0T) else F7 t.elem++if t.kind=7 then F7 t.len else[]
def roB(r:Ro):List Int:=X1 r.name++(a4E r.params++(a4E r.results++(F7 r.locals++(F7 r.stack++X1 (a8U r.code)))))
def A8(m:Mo):List Int:=F7 m.types.length++(m.types.flatMap tyB++(F7 m.texts.length++(m.texts.flatMap X1++(F7 m.funcs.length++m.funcs.flatMap roB))))
def WOk(L I:List Int):Prop:=(I.length≤2097153∧L=I)∨(2097153<I.length∧L.length=2097153)
theorem WOk.len{L I:List Int}(h:WOk L I):L.length≤2097153:=by
 rcases h with ⟨h,rfl⟩|⟨_,h⟩<;>omega
theorem a2P{α:Type}{f:α→List Int}{l:List α}{i:Nat}{a:α}(h:l[i]? =some a):(l.take (i+1)).flatMap f=(l.take i).flatMap f++f a:=by
 rw[List.take_add_one,h,List.flatMap_append];simp
def WAt(S:b7)(kw:Nat)(av:List Nat)(I:List Int)(T:b7):Prop:=S.le T∧S kw=none∧kw ∉ av∧(∀j∈av,T j≠none)∧∃(L:List Int) (t:D),WOk L I∧w9 T kw 1 [t]∧GrA S (kw::av) t (u4 (L.map (D.int .u8))) 1 T
section
variable{E:m6}{w0:o3}{S T:b7}{kw:Nat}{av:List Nat}{I:List Int}
theorem WAt.more(h:WAt S kw av I T){l:Nat}{o:L7}(hl:T l=none):WAt S kw (l::av) I (T.set l o):=by
 obtain⟨h1,h2,h3,h4,L,t,h5,h6,h7⟩:=h
 have ne:kw≠l:=h6.none hl
 have nt:∀j∈ob t,j≠l:=fun j hj e=>h7.ob_some j hj (by rw[e];exact hl)
 refine⟨b7.le_set h1 (b7.none_of h1 hl),h2,fun hm=> ?_,fun j hj=> ?_,L,t,h5,h6.set hl,h7.apart (fun j hj=>b7.set_ne _ _ _ (nt j hj)) fun j hj hm=> ?_⟩
 ·rcases List.mem_cons.1 hm with e|hm
  ·exact ne e
  ·exact h3 hm
 ·rcases List.mem_cons.1 hj with rfl|hj
  ·rw[b7.set_same];simp
  ·rw[b7.set_ne _ _ _ fun e=>h4 j hj (by rw[e];exact hl)];exact h4 j hj
 ·have:=h7.ob_av j hj
  rcases List.mem_cons.1 hm with e|hm
  ·exact this (by simp[e])
  ·rcases List.mem_cons.1 hm with e|hm
   ·exact nt j hj e
   ·exact this (by simp[hm])
theorem WAt.upd(h:WAt S kw av I T){l:Nat}{o:L7}(hl:l∈av)(hS:S l=none):WAt S kw av I (T.set l o):=by
 obtain⟨h1,h2,h3,h4,L,t,h5,h6,h7⟩:=h
 have ne:kw≠l:=fun e=>h3 (by rw[e];exact hl)
 refine⟨b7.le_set h1 hS,h2,h3,fun j hj=> ?_,L,t,h5,h6.set_ne ne,h7.set (.inl (by simp[hl]))⟩
 by_cases e:j=l
 ·subst e;rw[b7.set_same];simp
 ·rw[b7.set_ne _ _ _ e];exact h4 j hj
theorem WAt.less(h:WAt S kw av I T){av':List Nat}(ha:∀j∈av',j∈av):WAt S kw av' I T:=by
 obtain⟨h1,h2,h3,h4,L,t,h5,h6,h7⟩:=h
 refine⟨h1,h2,fun hm=>h3 (ha _ hm),fun j hj=>h4 j (ha j hj),L,t,h5,h6,h7.apart (fun _ _=>rfl) fun j hj hm=> ?_⟩
 have:=h7.ob_av j hj
 rcases List.mem_cons.1 hm with e|hm
 ·exact this (by simp[e])
 ·exact this (by simp[ha j hm])
theorem c7g(h:WAt S kw av I T){b:List Int}(hb:b.length<2^40):o4 Try.prog E w0 K0 [.ptr kw 0,bD b] T fun _ T'=>WAt S kw av (I++b) T'∧∀j∈av,T' j=T j:=by
 obtain⟨h1,h2,h3,h4,L,t,h5,h6,h7⟩:=h
 have hL:=h5.len
 refine b0H ?_
 unfold a5M
 have ld:c9 T (.ptr kw 0)=some t:=h6.ld 0
 have hlen:r6 t=some (.int .i64 (L.length:Int)):=by rw[h7.len];simp
 have go:∀ {v:D} {b':List Int} {T':b7},T'=T→rowsS T 1 v=some (u4 (b'.map (D.int .u8)))→WOk (L++b') (I++b)→(L++b').length≤2097153→R8 E w0 (d9 E fun _ T'=>WAt S kw av (I++b) T'∧∀j∈av,T' j=T j) (.ptr kw 0) v T':=fun{v b' T'} hT hv hw hwl=>by
  subst hT
  rw[List.length_append]at hwl
  refine a7T ?_
  unfold a4t
  simp only[ndP,I3,oD,Nat.zero_add,ld]
  by_cases hn:b'=[]
  ·have hskip:∀K:D→b7→Prop,K t T'→y9 T' 1 1 t v K:=fun K hK=>by
    simp only[y9,hv,hn,List.map_nil]
    rcases h7 with ⟨rfl,_⟩|⟨k,acs,_,_,rfl,_⟩<;>exact hK
   refine hskip _ ?_
   refine h6.st h7.cells ⟨rfl,by decide,by simp⟩ fun a=>d9.here ⟨⟨b7.le_set h1 h2,h2,h3,fun j hj=> ?_,L++b',t,hw,w9.new, ?_⟩,fun j hj=>b7.set_ne _ _ _ fun e=>h3 (by rw[←e];exact hj)⟩
   ·rw[b7.set_ne _ _ _ fun e=>h3 (by rw[←e];exact hj)];exact h4 j hj
   ·rw[hn,List.append_nil];exact h7.set (.inl (by simp))
  ·refine h7.push h1 (fun j hj=> ?_) hv (by simpa [u4]using hn) (by simp only[b2t,List.length_map];omega) fun t' T2 hle he hg=> ?_
   ·rcases List.mem_cons.1 hj with rfl|hj
    ·exact h6.there
    ·exact h4 j hj
   refine(h6.of (he kw (by simp))).st hg.cells ⟨rfl,by decide,by simp⟩ fun a=>d9.here ⟨⟨b7.le_set hle h2,h2,h3,fun j hj=> ?_,L++b',t',hw,w9.new, ?_⟩,fun j hj=> ?_⟩
   ·rw[b7.set_ne _ _ _ fun e=>h3 (by rw[←e];exact hj),he j (by simp[hj])];exact h4 j hj
   ·rw[List.map_append,a2t];exact hg.set (.inl (by simp))
   ·rw[b7.set_ne _ _ _ fun e=>h3 (by rw[←e];exact hj),he j (by simp[hj])]
 simp only[L9,ndP,I3,oD,Nat.zero_add,ld,hlen,b0s]
 rw[m7 (by omega) (by omega),a3z,oD,M6]
 refine⟨fun hgt=> ?_,fun hle=> ?_⟩
 ·have hgt:2097153<L.length+b.length:=by omega
  simp only[b3n]
  rw[if_pos ⟨by omega,Int.le_refl _,by omega,by omega⟩]
  obtain⟨z,hz⟩:∃z:Nat,(2097153:Int) - (L.length:Int)=(z:Int):=⟨2097153 - L.length,by omega⟩
  rw[hz,Int.toNat_natCast]
  refine .inl ?_
  have hrep:(List.replicate z [D.int .u8 0]).take z=u4 ((List.replicate z (0:Int)).map (D.int .u8)):=by
   rw[List.take_of_length_le (by simp)];simp[u4]
  rw[hrep]
  refine go (b':=List.replicate z 0) rfl (by simp[rowsS,J5]) (.inr ⟨?_, ?_⟩) (by simp;omega)
  ·rw[List.length_append]
   rcases h5 with ⟨_,rfl⟩|⟨h,_⟩<;>omega
  ·simp;omega
 ·have hle:L.length+b.length≤2097153:=by omega
  refine go rfl (b4L _ _) ?_ (by rw[List.length_append];omega)
  rcases h5 with ⟨_,rfl⟩|⟨h,hl⟩
  ·exact .inl ⟨by rw[List.length_append];omega,rfl⟩
  ·have hb0:b=[]:=List.length_eq_zero_iff.1 (by omega)
   subst hb0
   rw[List.append_nil,List.append_nil]
   exact .inr ⟨h,hl⟩
theorem c6Z:∀f n,(a4c f n).length≤f+1
 |0,n=>by simp[a4c]
 |f+1,n=>by
  rw[a4c]
  split
  ·simp
  ·have:=c6Z f (n / 128)
   simp;omega
theorem Z7(n:Int):(F7 n).length≤10:=c6Z _ _
theorem Q6(h:WAt S kw av I T){n:Int}:o4 Try.prog E w0 s5 [.ptr kw 0, .int .i64 n] T fun _ T'=>WAt S kw av (I++F7 n) T'∧∀j∈av,T' j=T j:=by
 refine a7m ?_
 unfold a3k
 rw[cvI,oD,d1j]
 refine(c6I (by omega)).use ?_
 have:=Z7 n
 exact(c7g h (b:=F7 n) (by omega)).use fun v T' hq=>d9.here hq
theorem b2o(h:WAt S kw av I T){s:Tx}(hs:s.length≤65536):o4 Try.prog E w0 F5 [.ptr kw 0, .str s] T fun _ T'=>WAt S kw av (I++X1 s) T'∧∀j∈av,T' j=T j:=by
 refine a8O ?_
 unfold a4O
 rw[lnS,oD]
 refine(Q6 h).use ?_
 rintro v T1 ⟨h1,e1⟩
 rw[oD,a3z,oD,decide_eq_false (by omega),cdF]
 refine a7r ?_
 unfold a3q
 simp only[b9x]
 rw[if_pos (by omega)]
 refine .inl ?_
 have e:(D.lst ((s.map fun b=>[D.int .u8 (b.toNat:Int)]).take s.length) 1)=bD (bytesOf s):=by
  rw[List.take_of_length_le (by simp)]
  simp[bD,bytesOf,u4,Function.comp_def]
 rw[e]
 refine(c7g h1 (b:=bytesOf s) (by simp[bytesOf];omega)).use ?_
 rintro v T2 ⟨h2,e2⟩
 refine d9.here ⟨?_,fun j hj=>by rw[e2 j hj,e1 j hj]⟩
 unfold X1
 rw[←List.append_assoc];exact h2
theorem c0W(h:WAt S kw av I T){l:List Int}(hl:l.length<2^40):o4 Try.prog E w0 N7 [.ptr kw 0,iD l] T fun _ T'=>WAt S kw av (I++a4E l) T'∧∀j∈av,T' j=T j:=by
 refine a6E ?_
 unfold a2S
 rw[b6U,oD]
 refine(Q6 h).use ?_
 rintro v T1 ⟨h1,e1⟩
 rw[oD]
 refine a5i (I:=fun n x0 x10 x11 x12 T2=>x0= .ptr kw 0∧x10=iD l∧x11= .int .i64 (l.length:Int)∧∃i:Nat,x12= .int .i64 (i:Int)∧i+n=l.length∧WAt S kw av (I++F7 l.length++(l.take i).flatMap F7) T2∧∀j∈av,T2 j=T j) ?_ (n:=l.length)
  ⟨rfl,rfl,rfl,0,rfl,by omega,by simpa using h1,e1⟩
 rintro n _ _ _ _ T2 ⟨rfl,rfl,rfl,i,rfl,hi,h2,e2⟩
 unfold U9
 rw[K3,oD,M6]
 refine⟨fun hlt=> ?_,fun hge=> ?_⟩
 ·have hlt:i<l.length:=by omega
  have ei:l[i]? =some l[i]:=List.getElem?_eq_getElem hlt
  rw[d3J ei,oD,lsE,List.getElem?_cons_zero,oD]
  refine(Q6 h2).use ?_
  rintro v T3 ⟨h3,e3⟩
  rw[E2,oD,m7 (by omega) (by omega)]
  exact⟨n - 1,by omega,rfl,rfl,rfl,i+1,rfl,by omega,by rw[a2P ei, ←List.append_assoc];exact h3,fun j hj=>by rw[e3 j hj,e2 j hj]⟩
 ·rw[List.take_of_length_le (by omega),List.append_assoc]at h2
  exact d9.here ⟨h2,e2⟩
structure Mo.Brief (m:Mo):Prop where
 ty:∀t∈m.types,t.name.length≤65536∧t.fields.length≤32∧∀f∈t.fields,f.1.length≤65536
 tx:∀t∈m.texts,t.length≤65536
 ro:∀r∈m.funcs,r.name.length≤65536∧r.params.length≤32∧r.results.length≤8∧r.code.length≤65536
theorem c2h{m:Mo}(hm:m.Fits)(hb:m.Brief){S:b7}:o4 Try.prog E w0 b0h [moD m] S fun d S'=>S'=S∧∃L,WOk L (A8 m)∧d=bD L:=by
 refine b8M ?_
 unfold b5O
 rw[moD,clA,oD]
 intro k a n
 have c0:w9 (S.set k ⟨3,[moC m],a⟩) k 3 (moC m):=w9.new
 have le0:S.le (S.set k ⟨3,[moC m],a⟩):=b7.le_new n
 rw[show(moC m).length=3 from rfl]
 intro kw aw nw
 have hw0:WAt S kw [k] [] ((S.set k ⟨3,[moC m],a⟩).set kw ⟨1,[[.nilSlc]],aw⟩):=by
  obtain⟨ne,nw'⟩:=b7.fresh nw
  exact⟨b7.le_set le0 nw',nw',by simpa using ne,fun j hj=>by simp only[List.mem_singleton]at hj;subst hj;exact(c0.set nw).there,[], .nilSlc, .inl ⟨by simp,rfl⟩,w9.new,GrA.nil⟩
 have c1:=c0.set (o:=⟨1,[[.nilSlc]],aw⟩) nw
 change a9 _ _
 rw[show([D.nilSlc]:List D).length=1 from rfl]
 generalize (S.set k ⟨3,[moC m],a⟩).set kw ⟨1,[[.nilSlc]],aw⟩=T0 at*
 have q0:(moC m)[0]? =some (b2X m.types):=rfl
 have q1:(moC m)[1]? =some (b0L m.texts):=rfl
 have q2:(moC m)[2]? =some (b2O m.funcs):=rfl
 have t0:=hm.types
 have t1:=hm.texts
 have t2:=hm.funcs
 simp only[I3,oD,Nat.zero_add,c1.ld,q0,a5t]
 refine(Q6 hw0).use ?_
 rintro v T1 ⟨h1,e1⟩
 have c1:=c1.of (e1 k (by simp))
 rw[c1.ld,q0,oD,a5t,oD]
 refine b6n (I:=fun n x1 x3 x19 x20 x21 T=>x1= .ptr k 0∧x3= .ptr kw 0∧x19=b2X m.types∧x20= .int .i64 (m.types.length:Int)∧∃i:Nat,x21= .int .i64 (i:Int)∧i+n=m.types.length∧WAt S kw [k] (F7 m.types.length++(m.types.take i).flatMap tyB) T∧w9 T k 3 (moC m)) ?_ (n:=m.types.length)
  ⟨rfl,rfl,rfl,rfl,0,rfl,by omega,by simpa using h1,c1⟩
 rintro n _ _ _ _ _ T ⟨rfl,rfl,rfl,rfl,i,rfl,hi,hw,cm⟩
 unfold a5r
 rw[K3,oD,M6]
 refine⟨fun hlt=> ?_,fun hge=> ?_⟩
 ·have hlt:i<m.types.length:=by omega
  obtain⟨t,ht⟩:∃t,t=m.types[i]:=⟨_,rfl⟩
  have et:m.types[i]? =some t:=by rw[List.getElem?_eq_getElem hlt,ht]
  have htm:t∈m.types:=by rw[ht];exact List.getElem_mem _
  obtain⟨b1,b2,b3⟩:=hb.ty t htm
  rw[b5Y et,oD,d3W,oD]
  intro k2 a2 n2
  refine(w9.new (sz:=5) (c:=[(.int .u8 0),(.str []), .nilSlc,(.int .i64 0),(.int .i64 0)])).st (ds:=O4 t) (clA _) ⟨rfl,by decide,by decide⟩ fun a2=> ?_
  rw[b7.set_set,show o8 [(D.int .u8 0),(.str []), .nilSlc,(.int .i64 0),(.int .i64 0)] 0 (O4 t)=O4 t from rfl]
  have c5:w9 (T.set k2 ⟨5,[O4 t],a2⟩) k2 5 (O4 t):=w9.new
  have hw2:=hw.more (o:=⟨5,[O4 t],a2⟩) n2
  have cm2:=cm.set (o:=⟨5,[O4 t],a2⟩) n2
  generalize T.set k2 ⟨5,[O4 t],a2⟩=T2 at*
  have p0:(O4 t)[0]? =some (.int .u8 t.kind):=rfl
  have p1:(O4 t)[1]? =some (.str t.name):=rfl
  have p2:(O4 t)[2]? =some (a3e t.fields):=rfl
  have p3:(O4 t)[3]? =some (.int .i64 t.elem):=rfl
  have p4:(O4 t)[4]? =some (.int .i64 t.len):=rfl
  rw[I3,oD,Nat.zero_add,c5.ld,p0,oD,show p9 1 (List.replicate 1 [D.int .u8 0]) [(0, .int .u8 t.kind)]=some (u4 ([t.kind].map (D.int .u8))) from rfl]
  refine M7 rfl ?_
  refine(show o4 Try.prog E w0 K0 [.ptr kw 0,bD [t.kind]] T2 _ from(c7g hw2 (b:=[t.kind]) (by simp)).use ?_)
  rintro v T3 ⟨h3,e3⟩
  have c5:=c5.of (e3 k2 (by simp))
  have cm3:=cm2.of (e3 k (by simp))
  have next:∀ {T4:b7} {rest:List Int},tyB t=t.kind::rest→WAt S kw [k2,k] (F7 m.types.length++(m.types.take i).flatMap tyB++[t.kind]++rest) T4→w9 T4 k 3 (moC m)→
    (fun(x1 x3 x19 x20 x21:D) (T:b7)=>∃m_1,m_1<n∧x1=D.ptr k 0∧x3=D.ptr kw 0∧x19=b2X m.types∧x20= .int .i64 (m.types.length:Int)∧∃i:Nat,x21= .int .i64 (i:Int)∧i+m_1=m.types.length∧WAt S kw [k] (F7 m.types.length++(m.types.take i).flatMap tyB) T∧w9 T k 3 (moC m))
     (D.ptr k 0) (D.ptr kw 0) (b2X m.types) (D.int .i64 (m.types.length:Int)) (D.int .i64 ((i:Int)+1)) T4:=fun{T4 rest} he hw4 cm4=>by
   refine⟨n - 1,by omega,rfl,rfl,rfl,rfl,i+1,rfl,by omega, ?_,cm4⟩
   rw[a2P et,he]
   have:=hw4.less (av':=[k]) (by simp)
   simpa using this
  rw[I3,oD,Nat.zero_add,c5.ld,p0,oD,a4M,oD,M6]
  refine⟨fun k6=> ?_,fun k6=> ?_⟩
  ·rw[I3,oD,c5.ld,p1,oD]
   refine(b2o h3 b1).use ?_
   rintro v T4 ⟨h4,e4⟩
   have c5:=c5.of (e4 k2 (by simp))
   have cm4:=cm3.of (e4 k (by simp))
   simp only[I3,oD,Nat.zero_add,c5.ld,p2,a1y]
   refine(Q6 h4).use ?_
   rintro v T5 ⟨h5,e5⟩
   have c5:=c5.of (e5 k2 (by simp))
   have cm5:=cm4.of (e5 k (by simp))
   simp only[I3,oD,Nat.zero_add,c5.ld,p2,a1y]
   refine b5w (I:=fun c x1 x3 x19 x20 x21 x43 x44 x45 T=>x1= .ptr k 0∧x3= .ptr kw 0∧x19=b2X m.types∧x20= .int .i64 (m.types.length:Int)∧x21= .int .i64 (i:Int)∧x43=a3e t.fields∧x44= .int .i64 (t.fields.length:Int)∧∃j:Nat,x45= .int .i64 (j:Int)∧j+c=t.fields.length∧
     WAt S kw [k2,k] (F7 m.types.length++(m.types.take i).flatMap tyB++[t.kind]++(X1 t.name++(F7 t.fields.length++(t.fields.take j).flatMap b0T))) T∧w9 T k 3 (moC m)) ?_ (n:=t.fields.length)
    ⟨rfl,rfl,rfl,rfl,rfl,rfl,rfl,0,rfl,by omega,by simpa using h5,cm5⟩
   rintro c _ _ _ _ _ _ _ _ T6 ⟨rfl,rfl,rfl,rfl,rfl,rfl,rfl,j,rfl,hj,hw6,cm6⟩
   unfold a5W
   rw[K3,oD,M6]
   refine⟨fun hjl=> ?_,fun hjg=> ?_⟩
   ·have hjl:j<t.fields.length:=by omega
    obtain⟨f,hf⟩:∃f,f=t.fields[j]:=⟨_,rfl⟩
    have ef:t.fields[j]? =some f:=by rw[List.getElem?_eq_getElem hjl,hf]
    have hfm:f∈t.fields:=by rw[hf];exact List.getElem_mem _
    rw[b0Z ef,oD,d1X,oD]
    intro k3 a3 n3
    refine(w9.new (sz:=2) (c:=[(.str []),(.int .i64 0)])).st (ds:=a0d f) (clA _) ⟨rfl,by decide,by decide⟩ fun a3=> ?_
    rw[b7.set_set,show o8 [(D.str []),(.int .i64 0)] 0 (a0d f)=a0d f from rfl]
    have c7:w9 (T6.set k3 ⟨2,[a0d f],a3⟩) k3 2 (a0d f):=w9.new
    have hw7:=hw6.more (o:=⟨2,[a0d f],a3⟩) n3
    have cm7:=cm6.set (o:=⟨2,[a0d f],a3⟩) n3
    generalize T6.set k3 ⟨2,[a0d f],a3⟩=T7 at*
    rw[I3,oD,Nat.zero_add,c7.ld,show(a0d f)[0]? =some (.str f.1) from rfl,oD]
    refine(b2o hw7 (b3 f hfm)).use ?_
    rintro v T8 ⟨h8,e8⟩
    have c7:=c7.of (e8 k3 (by simp))
    have cm8:=cm7.of (e8 k (by simp))
    rw[I3,oD,c7.ld,show(a0d f)[0+1]? =some (.int .i64 f.2) from rfl,oD]
    refine(Q6 h8).use ?_
    rintro v T9 ⟨h9,e9⟩
    have cm9:=cm8.of (e9 k (by simp))
    rw[E2,oD,m7 (by omega) (by omega)]
    refine⟨c - 1,by omega,rfl,rfl,rfl,rfl,rfl,rfl,rfl,j+1,rfl,by omega, ?_,cm9⟩
    rw[a2P ef]
    have:=h9.less (av':=[k2,k]) (by simp)
    simpa [b0T]using this
   ·rw[List.take_of_length_le (l:=t.fields) (by omega)]at hw6
    rw[E2,oD,m7 (by omega) (by omega)]
    exact next (by unfold tyB;rw[if_pos k6]) hw6 cm6
  ·rw[I3,oD,c5.ld,p3,oD]
   refine(Q6 h3).use ?_
   rintro v T4 ⟨h4,e4⟩
   have c5:=c5.of (e4 k2 (by simp))
   have cm4:=cm3.of (e4 k (by simp))
   rw[I3,oD,Nat.zero_add,c5.ld,p0,oD,a4M,oD,M6]
   refine⟨fun k7=> ?_,fun k7=> ?_⟩
   ·simp only[I3,oD,Nat.zero_add,c5.ld,p4]
    refine(Q6 h4).use ?_
    rintro v T5 ⟨h5,e5⟩
    have cm5:=cm4.of (e5 k (by simp))
    rw[E2,oD,m7 (by omega) (by omega)]
    obtain⟨m1,g1,_,_,_,_,i1,g2⟩:=next (rest:=F7 t.elem++F7 t.len) (by unfold tyB;rw[if_neg k6,if_pos k7]) (by rw[←List.append_assoc];exact h5) cm5
    exact⟨m1,g1,trivial,trivial,trivial,trivial,i1,g2⟩
   ·rw[E2,oD,m7 (by omega) (by omega)]
    exact next (rest:=F7 t.elem) (by unfold tyB;rw[if_neg k6,if_neg k7,List.append_nil]) h4 cm4
 have hi:i=m.types.length:=by omega
 subst hi
 rw[List.take_length]at hw
 rw[I3,oD,cm.ld,q1,oD,a8d,oD]
 refine(Q6 hw).use ?_
 rintro v T2 ⟨h2,e2⟩
 have cm2:=cm.of (e2 k (by simp))
 simp only[I3,oD,Nat.zero_add,cm2.ld,q1,a8d]
 refine b6i (I:=fun n x1 x3 x76 x77 x78 T=>x1= .ptr k 0∧x3= .ptr kw 0∧x76=b0L m.texts∧x77= .int .i64 (m.texts.length:Int)∧∃i:Nat,x78= .int .i64 (i:Int)∧i+n=m.texts.length∧WAt S kw [k] (F7 m.types.length++(m.types.flatMap tyB++(F7 m.texts.length++(m.texts.take i).flatMap X1))) T∧w9 T k 3 (moC m)) ?_ (n:=m.texts.length)
  ⟨rfl,rfl,rfl,rfl,0,rfl,by omega,by simpa using h2,cm2⟩
 rintro n _ _ _ _ _ T ⟨rfl,rfl,rfl,rfl,i,rfl,hi,hw,cm⟩
 unfold a6w
 rw[K3,oD,M6]
 refine⟨fun hlt=> ?_,fun hge=> ?_⟩
 ·have hlt:i<m.texts.length:=by omega
  have et:m.texts[i]? =some m.texts[i]:=List.getElem?_eq_getElem hlt
  rw[c3I et,oD,lsE,List.getElem?_cons_zero,oD]
  refine(b2o hw (hb.tx _ (List.getElem_mem _))).use ?_
  rintro v T3 ⟨h3,e3⟩
  have cm3:=cm.of (e3 k (by simp))
  rw[E2,oD,m7 (by omega) (by omega)]
  exact⟨n - 1,by omega,rfl,rfl,rfl,rfl,i+1,rfl,by omega,by rw[a2P et];simpa using h3,cm3⟩
 have hi:i=m.texts.length:=by omega
 subst hi
 rw[List.take_length]at hw
 rw[I3,oD,cm.ld,q2,oD,a8j,oD]
 refine(Q6 hw).use ?_
 rintro v T2 ⟨h2,e2⟩
 have cm2:=cm.of (e2 k (by simp))
 simp only[I3,oD,Nat.zero_add,cm2.ld,q2,a8j]
 refine b5W (I:=fun n x3 x92 x93 x94 T=>x3= .ptr kw 0∧x92=b2O m.funcs∧x93= .int .i64 (m.funcs.length:Int)∧∃i:Nat,x94= .int .i64 (i:Int)∧i+n=m.funcs.length∧WAt S kw [] (F7 m.types.length++(m.types.flatMap tyB++(F7 m.texts.length++(m.texts.flatMap X1++(F7 m.funcs.length++(m.funcs.take i).flatMap roB))))) T) ?_ (n:=m.funcs.length)
  ⟨rfl,rfl,rfl,0,rfl,by omega,by simpa using h2.less (av':=[]) (by simp)⟩
 rintro n _ _ _ _ T ⟨rfl,rfl,rfl,i,rfl,hi,hw⟩
 unfold a6q
 rw[K3,oD,M6]
 refine⟨fun hlt=> ?_,fun hge=> ?_⟩
 ·have hlt:i<m.funcs.length:=by omega
  obtain⟨t,ht⟩:∃t,t=m.funcs[i]:=⟨_,rfl⟩
  have et:m.funcs[i]? =some t:=by rw[List.getElem?_eq_getElem hlt,ht]
  have htm:t∈m.funcs:=by rw[ht];exact List.getElem_mem _
  obtain⟨b1,b2,b3,b4⟩:=hb.ro t htm
  rw[b9m et,oD,d4g,oD]
  intro k2 a2 n2
  refine(w9.new (sz:=6) (c:=[(.str []), .nilSlc, .nilSlc,(.int .i64 0),(.int .i64 0), .nilSlc])).st (ds:=roR t) (clA _) ⟨rfl,by decide,by decide⟩ fun a2=> ?_
  rw[b7.set_set,show o8 [(D.str []), .nilSlc, .nilSlc,(.int .i64 0),(.int .i64 0), .nilSlc] 0 (roR t)=roR t from rfl]
  have c6:w9 (T.set k2 ⟨6,[roR t],a2⟩) k2 6 (roR t):=w9.new
  have hw2:=hw.more (o:=⟨6,[roR t],a2⟩) n2
  generalize T.set k2 ⟨6,[roR t],a2⟩=T2 at*
  rw[I3,oD,Nat.zero_add,c6.ld,show(roR t)[0]? =some (.str t.name) from rfl,oD]
  refine(b2o hw2 b1).use ?_
  rintro v T3 ⟨h3,e3⟩
  have c6:=c6.of (e3 k2 (by simp))
  rw[I3,oD,c6.ld,show(roR t)[0+1]? =some (iD t.params) from rfl,oD]
  refine(c0W h3 (by omega)).use ?_
  rintro v T4 ⟨h4,e4⟩
  have c6:=c6.of (e4 k2 (by simp))
  rw[I3,oD,c6.ld,show(roR t)[0+2]? =some (iD t.results) from rfl,oD]
  refine(c0W h4 (by omega)).use ?_
  rintro v T5 ⟨h5,e5⟩
  have c6:=c6.of (e5 k2 (by simp))
  rw[I3,oD,c6.ld,show(roR t)[0+3]? =some (.int .i64 t.locals) from rfl,oD]
  refine(Q6 h5).use ?_
  rintro v T6 ⟨h6,e6⟩
  have c6:=c6.of (e6 k2 (by simp))
  rw[I3,oD,c6.ld,show(roR t)[0+4]? =some (.int .i64 t.stack) from rfl,oD]
  refine(Q6 h6).use ?_
  rintro v T7 ⟨h7,e7⟩
  have c6:=c6.of (e7 k2 (by simp))
  rw[I3,oD,c6.ld,show(roR t)[0+5]? =some (bD t.code) from rfl,oD,d0M,oD]
  refine(b2o h7 (by simpa [a8U]using b4)).use ?_
  rintro v T8 ⟨h8,e8⟩
  rw[E2,oD,m7 (by omega) (by omega)]
  refine⟨n - 1,by omega,rfl,rfl,rfl,i+1,rfl,by omega, ?_⟩
  rw[a2P et]
  have:=h8.less (av':=[]) (by simp)
  simpa [roB]using this
 ·have hi:i=m.funcs.length:=by omega
  subst hi
  rw[List.take_length]at hw
  obtain⟨h1,_,_,_,L,t,h5,h6,h7⟩:=hw
  rw[ndP,oD,I3,oD,h6.ld,show[t][0+0]? =some t from rfl,oD]
  rcases h7 with ⟨rfl,e⟩|⟨kL,acs,z0,z1,rfl,z3⟩
  ·have hL:L=[]:=by simpa [u4]using e
   subst hL
   exact d9.nil (sz:=1) (d9.less h1 (d9.here ⟨rfl,[],h5,rfl⟩))
  ·refine d9.freeze z3 rfl (by simp) (Nat.le_refl _) (d9.less (b7.le_erase h1 z0) (d9.here ⟨rfl,L,h5, ?_⟩))
   rw[List.drop_zero,List.take_length];rfl
end
end
section
abbrev Flt:=Int×Int
abbrev Ps(α:Type):=Nat→Except Flt (α×Nat)
def Ps.bind{α β:Type}(x:Ps α)(f:α→Ps β):Ps β:=fun p=>match x p with
 | .error e=> .error e
 | .ok r=>f r.1 r.2
def Ps.ret{α:Type}(a:α):Ps α:=fun p=> .ok (a,p)
def Ps.rep{α:Type}(x:Ps α):Nat→Ps (List α)
 |0=>Ps.ret []
 |n+1=>x.bind fun a=>(Ps.rep x n).bind fun l=>Ps.ret (a::l)
theorem Ps.bind_ok{α β:Type}{x:Ps α}{f:α→Ps β}{p q:Nat}{a:α}(h:x p= .ok (a,q)):x.bind f p=f a q:=by simp only[Ps.bind,h]
theorem Ps.bind_err{α β:Type}{x:Ps α}{f:α→Ps β}{p:Nat}{e:Flt}(h:x p= .error e):x.bind f p= .error e:=by simp only[Ps.bind,h]
theorem Ps.of_bind{α β:Type}{x:Ps α}{f:α→Ps β}{p:Nat}{r:β×Nat}(h:x.bind f p= .ok r):∃a q,x p= .ok (a,q)∧f a q= .ok r:=by
 unfold Ps.bind at h
 split at h
 ·cases h
 ·rename_i r' e;exact⟨r'.1,r'.2,e,h⟩
def a8k:List Int→Nat→Nat→Nat×Nat×Int
 | [],_,_=>(0,0,10)
 |b::l,i,acc=>if(i=9∧b>1)∨(0<i∧b=0) then(0,0,11)
  else if b<128 then(acc+b.toNat % 128*2^(7*i),i+1,0) else a8k l (i+1) (acc+b.toNat % 128*2^(7*i))
section
variable(bs:List Int)
def a6s:Ps Int:=fun p=>match a8k (bs.drop p) 0 0 with
 |(v,k,e)=>if e=10 then .error ((bs.length:Int),10) else if e≠0 then .error ((p:Int),e) else if v>2147483647 then .error ((p:Int),130) else .ok ((v:Int),p+k)
def P1(most:Int):Ps Int:=fun p=>(a6s bs).bind (fun n q=>if n>most then .error ((p:Int),3) else .ok (n,q)) p
def b4l(n:Int):Ps (List Int):=fun p=>if n>(bs.length:Int) - p then .error ((bs.length:Int),10) else .ok ((bs.drop p).take n.toNat,p+n.toNat)
def a4Q(most:Int):Ps Tx:=(P1 bs most).bind fun n=>(b4l bs n).bind fun l=>Ps.ret (a8U l)
def b3D(most:Int):Ps (List Int):=(P1 bs most).bind fun n=>Ps.rep (a6s bs) n.toNat
def b3k:Ps (Tx×Int):=(a4Q bs 65536).bind fun s=>(a6s bs).bind fun t=>Ps.ret (s,t)
def a8g(p:Nat)(y:Int):Ps Ty:=
 if y=6 then(a4Q bs 65536).bind fun s=>(P1 bs 32).bind fun n=>(Ps.rep (b3k bs) n.toNat).bind fun fs=>Ps.ret ⟨6,s,fs,0,0⟩
 else if y=7 then(a6s bs).bind fun a=>(a6s bs).bind fun b=>Ps.ret ⟨7,[],[],a,b⟩
 else if y=8 then(a6s bs).bind fun a=>Ps.ret ⟨8,[],[],a,0⟩
 else fun _=> .error ((p:Int),130)
theorem c4n(p:Nat):a8g bs p 6=(a4Q bs 65536).bind fun s=>(P1 bs 32).bind fun n=>(Ps.rep (b3k bs) n.toNat).bind fun fs=>Ps.ret ⟨6,s,fs,0,0⟩:=if_pos rfl
theorem c4B(p:Nat):a8g bs p 7=(a6s bs).bind fun a=>(a6s bs).bind fun b=>Ps.ret ⟨7,[],[],a,b⟩:=by
 unfold a8g;rw[if_neg (by decide),if_pos rfl]
theorem c4f(p:Nat):a8g bs p 8=(a6s bs).bind fun a=>Ps.ret ⟨8,[],[],a,0⟩:=by
 unfold a8g;rw[if_neg (by decide),if_neg (by decide),if_pos rfl]
theorem d0R(p:Nat){y:Int}(h6:y≠6)(h7:y≠7)(h8:y≠8):a8g bs p y=fun _=> .error ((p:Int),130):=by
 unfold a8g;rw[if_neg h6,if_neg h7,if_neg h8]
def b3S:Ps Ty:=fun p=>(b4l bs 1).bind (fun k=>a8g bs p (k.headD 0)) p
def b5o:Ps Ro:=(a4Q bs 65536).bind fun s=>(b3D bs 32).bind fun a=>(b3D bs 8).bind fun b=>(a6s bs).bind fun l=>(a6s bs).bind fun k=>(P1 bs 65536).bind fun n=>(b4l bs n).bind fun c=>Ps.ret ⟨s,a,b,l,k,c⟩
def b9f{α:Type}(a:α):Ps α:=fun p=>if p<bs.length then .error ((p:Int),130) else .ok (a,p)
def a9r:Ps Mo:=(P1 bs 256).bind fun n=>(Ps.rep (b3S bs) n.toNat).bind fun ts=>(P1 bs 32768).bind fun n=>(Ps.rep (a4Q bs 65536) n.toNat).bind fun xs=>(P1 bs 256).bind fun n=>(Ps.rep (b5o bs) n.toNat).bind fun fs=>b9f bs ⟨ts,xs,fs⟩
end
end
end Go.Proofs.Ytchnpgddpaonhaa.d
end
