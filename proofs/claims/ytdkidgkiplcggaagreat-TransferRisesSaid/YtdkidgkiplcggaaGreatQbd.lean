/-
  TransferRisesSaid: part Qbd of its proof.
-/
import Derived.Test.YtdkidgkiplcggaaGreatQbb
import Derived.Test.YtdkidgkiplcggaaGreatQbc
import Derived.Test.YtdkidgkiplcggaaGreatQax
import Derived.Sort.Grow
set_option linter.unusedVariables false
set_option linter.unusedSimpArgs false
set_option maxRecDepth 100000
section
open Go.Proofs Go Go.Am Go.Op
namespace Go.Proofs.YtdkidgkiplcggaaGreat.d
section
def bytesOf(s:Tx):List Int:=s.map fun b=>(b.toNat:Int)
def b4z(s:Tx):List Int:=a2S s.length++bytesOf s
def d3v(l:List Int):List Int:=a2S l.length++l.flatMap a2S
def d3I(f:Tx×Int):List Int:=b4z f.1++a2S f.2
def tyB(t:Ty):List Int:=t.kind::if t.kind=6 then b4z t.name++(a2S t.fields.length++t.fields.flatMap d3I) else a2S t.elem++if t.kind=7 then a2S t.len else[]
def roB(r:Ro):List Int:=b4z r.name++(d3v r.params++(d3v r.results++(a2S r.locals++(a2S r.stack++b4z (d5f r.code)))))
def W7(m:Mo):List Int:=a2S m.types.length++(m.types.flatMap tyB++(a2S m.texts.length++(m.texts.flatMap b4z++(a2S m.funcs.length++m.funcs.flatMap roB))))
def WOk(L I:List Int):Prop:=(I.length≤2097153∧L=I)∨(2097153<I.length∧L.length=2097153)
theorem WOk.len{L I:List Int}(h:WOk L I):L.length≤2097153:=by
 rcases h with ⟨h,rfl⟩|⟨_,h⟩<;>omega
theorem a3n{α:Type}{f:α→List Int}{l:List α}{i:Nat}{a:α}(h:l[i]? =some a):(l.take (i+1)).flatMap f=(l.take i).flatMap f++f a:=by
 rw[List.take_add_one,h,List.flatMap_append];simp
def WAt(S:b8)(kw:Nat)(av:List Nat)(I:List Int)(T:b8):Prop:=S.le T∧S kw=none∧kw ∉ av∧(∀j∈av,T j≠none)∧∃(L:List Int) (t:D),WOk L I∧u9 T kw 1 [t]∧GrA S (kw::av) t (B4 (L.map (D.int .u8))) 1 T
section
variable{E:j2}{w0:j9}{S T:b8}{kw:Nat}{av:List Nat}{I:List Int}
theorem WAt.more(h:WAt S kw av I T){l:Nat}{o:D5}(hl:T l=none):WAt S kw (l::av) I (T.set l o):=by
 obtain⟨h1,h2,h3,h4,L,t,h5,h6,h7⟩:=h
 have ne:kw≠l:=h6.none hl
 have nt:∀j∈ob t,j≠l:=fun j hj e=>h7.ob_some j hj (by rw[e];exact hl)
 refine⟨b8.le_set h1 (b8.none_of h1 hl),h2,fun hm=> ?_,fun j hj=> ?_,L,t,h5,h6.set hl,h7.apart (fun j hj=>b8.set_ne _ _ _ (nt j hj)) fun j hj hm=> ?_⟩
 ·rcases List.mem_cons.1 hm with e|hm
  ·exact ne e
  ·exact h3 hm
 ·rcases List.mem_cons.1 hj with rfl|hj
  ·rw[b8.set_same];simp
  ·rw[b8.set_ne _ _ _ fun e=>h4 j hj (by rw[e];exact hl)];exact h4 j hj
 ·have:=h7.ob_av j hj
  rcases List.mem_cons.1 hm with e|hm
  ·exact this (by simp[e])
  ·rcases List.mem_cons.1 hm with e|hm
   ·exact nt j hj e
   ·exact this (by simp[hm])
theorem WAt.upd(h:WAt S kw av I T){l:Nat}{o:D5}(hl:l∈av)(hS:S l=none):WAt S kw av I (T.set l o):=by
 obtain⟨h1,h2,h3,h4,L,t,h5,h6,h7⟩:=h
 have ne:kw≠l:=fun e=>h3 (by rw[e];exact hl)
 refine⟨b8.le_set h1 hS,h2,h3,fun j hj=> ?_,L,t,h5,h6.set_ne ne,h7.set (.inl (by simp[hl]))⟩
 by_cases e:j=l
 ·subst e;rw[b8.set_same];simp
 ·rw[b8.set_ne _ _ _ e];exact h4 j hj
theorem WAt.less(h:WAt S kw av I T){av':List Nat}(ha:∀j∈av',j∈av):WAt S kw av' I T:=by
 obtain⟨h1,h2,h3,h4,L,t,h5,h6,h7⟩:=h
 refine⟨h1,h2,fun hm=>h3 (ha _ hm),fun j hj=>h4 j (ha j hj),L,t,h5,h6,h7.apart (fun _ _=>rfl) fun j hj hm=> ?_⟩
 have:=h7.ob_av j hj
 rcases List.mem_cons.1 hm with e|hm
 ·exact this (by simp[e])
 ·exact this (by simp[ha j hm])
theorem d0F(h:WAt S kw av I T){b:List Int}(hb:b.length<2^40):j8 Tryz.prog E w0 J2 [.ptr kw 0,bD b] T fun _ T'=>WAt S kw av (I++b) T'∧∀j∈av,T' j=T j:=by
 obtain⟨h1,h2,h3,h4,L,t,h5,h6,h7⟩:=h
 have hL:=h5.len
 refine b1g ?_
 unfold a6R
 have ld:c9 T (.ptr kw 0)=some t:=h6.ld 0
 have hlen:m9 t=some (.int .i64 (L.length:Int)):=by rw[h7.len];simp
 have go:∀ {v:D} {b':List Int} {T':b8},T'=T→rowsS T 1 v=some (B4 (b'.map (D.int .u8)))→WOk (L++b') (I++b)→(L++b').length≤2097153→U0 E w0 (d9 E fun _ T'=>WAt S kw av (I++b) T'∧∀j∈av,T' j=T j) (.ptr kw 0) v T':=fun{v b' T'} hT hv hw hwl=>by
  subst hT
  rw[List.length_append]at hwl
  refine a8R ?_
  unfold a5e
  simp only[ndP,E2,oD,Nat.zero_add,ld]
  by_cases hn:b'=[]
  ·have hskip:∀K:D→b8→Prop,K t T'→w9 T' 1 1 t v K:=fun K hK=>by
    simp only[w9,hv,hn,List.map_nil]
    rcases h7 with ⟨rfl,_⟩|⟨k,acs,_,_,rfl,_⟩<;>exact hK
   refine hskip _ ?_
   refine h6.st h7.cells ⟨rfl,by decide,by simp⟩ fun a=>d9.here ⟨⟨b8.le_set h1 h2,h2,h3,fun j hj=> ?_,L++b',t,hw,u9.new, ?_⟩,fun j hj=>b8.set_ne _ _ _ fun e=>h3 (by rw[←e];exact hj)⟩
   ·rw[b8.set_ne _ _ _ fun e=>h3 (by rw[←e];exact hj)];exact h4 j hj
   ·rw[hn,List.append_nil];exact h7.set (.inl (by simp))
  ·refine h7.push h1 (fun j hj=> ?_) hv (by simpa [B4]using hn) (by simp only[b2d,List.length_map];omega) fun t' T2 hle he hg=> ?_
   ·rcases List.mem_cons.1 hj with rfl|hj
    ·exact h6.there
    ·exact h4 j hj
   refine(h6.of (he kw (by simp))).st hg.cells ⟨rfl,by decide,by simp⟩ fun a=>d9.here ⟨⟨b8.le_set hle h2,h2,h3,fun j hj=> ?_,L++b',t',hw,u9.new, ?_⟩,fun j hj=> ?_⟩
   ·rw[b8.set_ne _ _ _ fun e=>h3 (by rw[←e];exact hj),he j (by simp[hj])];exact h4 j hj
   ·rw[List.map_append,a4S];exact hg.set (.inl (by simp))
   ·rw[b8.set_ne _ _ _ fun e=>h3 (by rw[←e];exact hj),he j (by simp[hj])]
 simp only[a2C,ndP,E2,oD,Nat.zero_add,ld,hlen,b4u]
 rw[l8 (by omega) (by omega),a7w,oD,I6]
 refine⟨fun hgt=> ?_,fun hle=> ?_⟩
 ·have hgt:2097153<L.length+b.length:=by omega
  simp only[a6o]
  rw[if_pos ⟨by omega,Int.le_refl _,by omega,by omega⟩]
  obtain⟨z,hz⟩:∃z:Nat,(2097153:Int) - (L.length:Int)=(z:Int):=⟨2097153 - L.length,by omega⟩
  rw[hz,Int.toNat_natCast]
  refine .inl ?_
  have hrep:(List.replicate z [D.int .u8 0]).take z=B4 ((List.replicate z (0:Int)).map (D.int .u8)):=by
   rw[List.take_of_length_le (by simp)];simp[B4]
  rw[hrep]
  refine go (b':=List.replicate z 0) rfl (by simp[rowsS,L5]) (.inr ⟨?_, ?_⟩) (by simp;omega)
  ·rw[List.length_append]
   rcases h5 with ⟨_,rfl⟩|⟨h,_⟩<;>omega
  ·simp;omega
 ·have hle:L.length+b.length≤2097153:=by omega
  refine go rfl (c1u _ _) ?_ (by rw[List.length_append];omega)
  rcases h5 with ⟨_,rfl⟩|⟨h,hl⟩
  ·exact .inl ⟨by rw[List.length_append];omega,rfl⟩
  ·have hb0:b=[]:=List.length_eq_zero_iff.1 (by omega)
   subst hb0
   rw[List.append_nil,List.append_nil]
   exact .inr ⟨h,hl⟩
theorem c7P:∀f n,(c4z f n).length≤f+1
 |0,n=>by simp[c4z]
 |f+1,n=>by
  rw[c4z]
  split
  ·simp
  ·have:=c7P f (n / 128)
   simp;omega
theorem d4B(n:Int):(a2S n).length≤10:=c7P _ _
theorem R7(h:WAt S kw av I T){n:Int}:j8 Tryz.prog E w0 p9 [.ptr kw 0, .int .i64 n] T fun _ T'=>WAt S kw av (I++a2S n) T'∧∀j∈av,T' j=T j:=by
 refine a7Y ?_
 unfold a3K
 rw[cvI,oD,d4Q]
 refine(c8f (by omega)).use ?_
 have:=d4B n
 exact(d0F h (b:=a2S n) (by omega)).use fun v T' hq=>d9.here hq
theorem b3d(h:WAt S kw av I T){s:Tx}(hs:s.length≤65536):j8 Tryz.prog E w0 E6 [.ptr kw 0, .str s] T fun _ T'=>WAt S kw av (I++b4z s) T'∧∀j∈av,T' j=T j:=by
 refine b0k ?_
 unfold a5r
 rw[lnS,oD]
 refine(R7 h).use ?_
 rintro v T1 ⟨h1,e1⟩
 rw[oD,a7w,oD,decide_eq_false (by omega),cdF]
 refine a8s ?_
 unfold a3U
 simp only[c3B]
 rw[if_pos (by omega)]
 refine .inl ?_
 have e:(D.lst ((s.map fun b=>[D.int .u8 (b.toNat:Int)]).take s.length) 1)=bD (bytesOf s):=by
  rw[List.take_of_length_le (by simp)]
  simp[bD,bytesOf,B4,Function.comp_def]
 rw[e]
 refine(d0F h1 (b:=bytesOf s) (by simp[bytesOf];omega)).use ?_
 rintro v T2 ⟨h2,e2⟩
 refine d9.here ⟨?_,fun j hj=>by rw[e2 j hj,e1 j hj]⟩
 unfold b4z
 rw[←List.append_assoc];exact h2
theorem c4a(h:WAt S kw av I T){l:List Int}(hl:l.length<2^40):j8 Tryz.prog E w0 N4 [.ptr kw 0,iD l] T fun _ T'=>WAt S kw av (I++d3v l) T'∧∀j∈av,T' j=T j:=by
 refine a7q ?_
 unfold a3u
 rw[Y7,oD]
 refine(R7 h).use ?_
 rintro v T1 ⟨h1,e1⟩
 rw[oD]
 refine a5S (I:=fun n x0 x10 x11 x12 T2=>x0= .ptr kw 0∧x10=iD l∧x11= .int .i64 (l.length:Int)∧∃i:Nat,x12= .int .i64 (i:Int)∧i+n=l.length∧WAt S kw av (I++a2S l.length++(l.take i).flatMap a2S) T2∧∀j∈av,T2 j=T j) ?_ (n:=l.length)
  ⟨rfl,rfl,rfl,0,rfl,by omega,by simpa using h1,e1⟩
 rintro n _ _ _ _ T2 ⟨rfl,rfl,rfl,i,rfl,hi,h2,e2⟩
 unfold V4
 rw[H7,oD,I6]
 refine⟨fun hlt=> ?_,fun hge=> ?_⟩
 ·have hlt:i<l.length:=by omega
  have ei:l[i]? =some l[i]:=List.getElem?_eq_getElem hlt
  rw[a7J ei,oD,lsE,List.getElem?_cons_zero,oD]
  refine(R7 h2).use ?_
  rintro v T3 ⟨h3,e3⟩
  rw[D7,oD,l8 (by omega) (by omega)]
  exact⟨n - 1,by omega,rfl,rfl,rfl,i+1,rfl,by omega,by rw[a3n ei, ←List.append_assoc];exact h3,fun j hj=>by rw[e3 j hj,e2 j hj]⟩
 ·rw[List.take_of_length_le (by omega),List.append_assoc]at h2
  exact d9.here ⟨h2,e2⟩
structure Mo.Brief (m:Mo):Prop where
 ty:∀t∈m.types,t.name.length≤65536∧t.fields.length≤32∧∀f∈t.fields,f.1.length≤65536
 tx:∀t∈m.texts,t.length≤65536
 ro:∀r∈m.funcs,r.name.length≤65536∧r.params.length≤32∧r.results.length≤8∧r.code.length≤65536
theorem c4A{m:Mo}(hm:m.Fits)(hb:m.Brief){S:b8}:j8 Tryz.prog E w0 a9J [moD m] S fun d S'=>S'=S∧∃L,WOk L (W7 m)∧d=bD L:=by
 refine c0f ?_
 unfold b6Q
 rw[moD,U9,oD]
 intro k a n
 have c0:u9 (S.set k ⟨3,[M3 m],a⟩) k 3 (M3 m):=u9.new
 have le0:S.le (S.set k ⟨3,[M3 m],a⟩):=b8.le_new n
 rw[show(M3 m).length=3 from rfl]
 intro kw aw nw
 have hw0:WAt S kw [k] [] ((S.set k ⟨3,[M3 m],a⟩).set kw ⟨1,[[.nilSlc]],aw⟩):=by
  obtain⟨ne,nw'⟩:=b8.fresh nw
  exact⟨b8.le_set le0 nw',nw',by simpa using ne,fun j hj=>by simp only[List.mem_singleton]at hj;subst hj;exact(c0.set nw).there,[], .nilSlc, .inl ⟨by simp,rfl⟩,u9.new,GrA.nil⟩
 have c1:=c0.set (o:=⟨1,[[.nilSlc]],aw⟩) nw
 change b7 _ _
 rw[show([D.nilSlc]:List D).length=1 from rfl]
 generalize (S.set k ⟨3,[M3 m],a⟩).set kw ⟨1,[[.nilSlc]],aw⟩=T0 at*
 have q0:(M3 m)[0]? =some (b0l m.types):=rfl
 have q1:(M3 m)[1]? =some (b1r m.texts):=rfl
 have q2:(M3 m)[2]? =some (a9d m.funcs):=rfl
 have t0:=hm.types
 have t1:=hm.texts
 have t2:=hm.funcs
 simp only[E2,oD,Nat.zero_add,c1.ld,q0,a6k]
 refine(R7 hw0).use ?_
 rintro v T1 ⟨h1,e1⟩
 have c1:=c1.of (e1 k (by simp))
 rw[c1.ld,q0,oD,a6k,oD]
 refine b7A (I:=fun n x1 x3 x19 x20 x21 T=>x1= .ptr k 0∧x3= .ptr kw 0∧x19=b0l m.types∧x20= .int .i64 (m.types.length:Int)∧∃i:Nat,x21= .int .i64 (i:Int)∧i+n=m.types.length∧WAt S kw [k] (a2S m.types.length++(m.types.take i).flatMap tyB) T∧u9 T k 3 (M3 m)) ?_ (n:=m.types.length)
  ⟨rfl,rfl,rfl,rfl,0,rfl,by omega,by simpa using h1,c1⟩
 rintro n _ _ _ _ _ T ⟨rfl,rfl,rfl,rfl,i,rfl,hi,hw,cm⟩
 unfold a6f
 rw[H7,oD,I6]
 refine⟨fun hlt=> ?_,fun hge=> ?_⟩
 ·have hlt:i<m.types.length:=by omega
  obtain⟨t,ht⟩:∃t,t=m.types[i]:=⟨_,rfl⟩
  have et:m.types[i]? =some t:=by rw[List.getElem?_eq_getElem hlt,ht]
  have htm:t∈m.types:=by rw[ht];exact List.getElem_mem _
  obtain⟨b1,b2,b3⟩:=hb.ty t htm
  rw[b6r et,oD,d7c,oD]
  intro k2 a2 n2
  refine(u9.new (sz:=5) (c:=[(.int .u8 0),(.str []), .nilSlc,(.int .i64 0),(.int .i64 0)])).st (ds:=W6 t) (U9 _) ⟨rfl,by decide,by decide⟩ fun a2=> ?_
  rw[b8.set_set,show l7 [(D.int .u8 0),(.str []), .nilSlc,(.int .i64 0),(.int .i64 0)] 0 (W6 t)=W6 t from rfl]
  have c5:u9 (T.set k2 ⟨5,[W6 t],a2⟩) k2 5 (W6 t):=u9.new
  have hw2:=hw.more (o:=⟨5,[W6 t],a2⟩) n2
  have cm2:=cm.set (o:=⟨5,[W6 t],a2⟩) n2
  generalize T.set k2 ⟨5,[W6 t],a2⟩=T2 at*
  have p0:(W6 t)[0]? =some (.int .u8 t.kind):=rfl
  have p1:(W6 t)[1]? =some (.str t.name):=rfl
  have p2:(W6 t)[2]? =some (a3a t.fields):=rfl
  have p3:(W6 t)[3]? =some (.int .i64 t.elem):=rfl
  have p4:(W6 t)[4]? =some (.int .i64 t.len):=rfl
  rw[E2,oD,Nat.zero_add,c5.ld,p0,oD,show m8 1 (List.replicate 1 [D.int .u8 0]) [(0, .int .u8 t.kind)]=some (B4 ([t.kind].map (D.int .u8))) from rfl]
  refine G6 rfl ?_
  refine(show j8 Tryz.prog E w0 J2 [.ptr kw 0,bD [t.kind]] T2 _ from(d0F hw2 (b:=[t.kind]) (by simp)).use ?_)
  rintro v T3 ⟨h3,e3⟩
  have c5:=c5.of (e3 k2 (by simp))
  have cm3:=cm2.of (e3 k (by simp))
  have next:∀ {T4:b8} {rest:List Int},tyB t=t.kind::rest→WAt S kw [k2,k] (a2S m.types.length++(m.types.take i).flatMap tyB++[t.kind]++rest) T4→u9 T4 k 3 (M3 m)→
    (fun(x1 x3 x19 x20 x21:D) (T:b8)=>∃m_1,m_1<n∧x1=D.ptr k 0∧x3=D.ptr kw 0∧x19=b0l m.types∧x20= .int .i64 (m.types.length:Int)∧∃i:Nat,x21= .int .i64 (i:Int)∧i+m_1=m.types.length∧WAt S kw [k] (a2S m.types.length++(m.types.take i).flatMap tyB) T∧u9 T k 3 (M3 m))
     (D.ptr k 0) (D.ptr kw 0) (b0l m.types) (D.int .i64 (m.types.length:Int)) (D.int .i64 ((i:Int)+1)) T4:=fun{T4 rest} he hw4 cm4=>by
   refine⟨n - 1,by omega,rfl,rfl,rfl,rfl,i+1,rfl,by omega, ?_,cm4⟩
   rw[a3n et,he]
   have:=hw4.less (av':=[k]) (by simp)
   simpa using this
  rw[E2,oD,Nat.zero_add,c5.ld,p0,oD,Q2,oD,I6]
  refine⟨fun k6=> ?_,fun k6=> ?_⟩
  ·rw[E2,oD,c5.ld,p1,oD]
   refine(b3d h3 b1).use ?_
   rintro v T4 ⟨h4,e4⟩
   have c5:=c5.of (e4 k2 (by simp))
   have cm4:=cm3.of (e4 k (by simp))
   simp only[E2,oD,Nat.zero_add,c5.ld,p2,a1Q]
   refine(R7 h4).use ?_
   rintro v T5 ⟨h5,e5⟩
   have c5:=c5.of (e5 k2 (by simp))
   have cm5:=cm4.of (e5 k (by simp))
   simp only[E2,oD,Nat.zero_add,c5.ld,p2,a1Q]
   refine b6W (I:=fun c x1 x3 x19 x20 x21 x43 x44 x45 T=>x1= .ptr k 0∧x3= .ptr kw 0∧x19=b0l m.types∧x20= .int .i64 (m.types.length:Int)∧x21= .int .i64 (i:Int)∧x43=a3a t.fields∧x44= .int .i64 (t.fields.length:Int)∧∃j:Nat,x45= .int .i64 (j:Int)∧j+c=t.fields.length∧
     WAt S kw [k2,k] (a2S m.types.length++(m.types.take i).flatMap tyB++[t.kind]++(b4z t.name++(a2S t.fields.length++(t.fields.take j).flatMap d3I))) T∧u9 T k 3 (M3 m)) ?_ (n:=t.fields.length)
    ⟨rfl,rfl,rfl,rfl,rfl,rfl,rfl,0,rfl,by omega,by simpa using h5,cm5⟩
   rintro c _ _ _ _ _ _ _ _ T6 ⟨rfl,rfl,rfl,rfl,rfl,rfl,rfl,j,rfl,hj,hw6,cm6⟩
   unfold a6I
   rw[H7,oD,I6]
   refine⟨fun hjl=> ?_,fun hjg=> ?_⟩
   ·have hjl:j<t.fields.length:=by omega
    obtain⟨f,hf⟩:∃f,f=t.fields[j]:=⟨_,rfl⟩
    have ef:t.fields[j]? =some f:=by rw[List.getElem?_eq_getElem hjl,hf]
    have hfm:f∈t.fields:=by rw[hf];exact List.getElem_mem _
    rw[b3b ef,oD,d4a,oD]
    intro k3 a3 n3
    refine(u9.new (sz:=2) (c:=[(.str []),(.int .i64 0)])).st (ds:=a1F f) (U9 _) ⟨rfl,by decide,by decide⟩ fun a3=> ?_
    rw[b8.set_set,show l7 [(D.str []),(.int .i64 0)] 0 (a1F f)=a1F f from rfl]
    have c7:u9 (T6.set k3 ⟨2,[a1F f],a3⟩) k3 2 (a1F f):=u9.new
    have hw7:=hw6.more (o:=⟨2,[a1F f],a3⟩) n3
    have cm7:=cm6.set (o:=⟨2,[a1F f],a3⟩) n3
    generalize T6.set k3 ⟨2,[a1F f],a3⟩=T7 at*
    rw[E2,oD,Nat.zero_add,c7.ld,show(a1F f)[0]? =some (.str f.1) from rfl,oD]
    refine(b3d hw7 (b3 f hfm)).use ?_
    rintro v T8 ⟨h8,e8⟩
    have c7:=c7.of (e8 k3 (by simp))
    have cm8:=cm7.of (e8 k (by simp))
    rw[E2,oD,c7.ld,show(a1F f)[0+1]? =some (.int .i64 f.2) from rfl,oD]
    refine(R7 h8).use ?_
    rintro v T9 ⟨h9,e9⟩
    have cm9:=cm8.of (e9 k (by simp))
    rw[D7,oD,l8 (by omega) (by omega)]
    refine⟨c - 1,by omega,rfl,rfl,rfl,rfl,rfl,rfl,rfl,j+1,rfl,by omega, ?_,cm9⟩
    rw[a3n ef]
    have:=h9.less (av':=[k2,k]) (by simp)
    simpa [d3I]using this
   ·rw[List.take_of_length_le (l:=t.fields) (by omega)]at hw6
    rw[D7,oD,l8 (by omega) (by omega)]
    exact next (by unfold tyB;rw[if_pos k6]) hw6 cm6
  ·rw[E2,oD,c5.ld,p3,oD]
   refine(R7 h3).use ?_
   rintro v T4 ⟨h4,e4⟩
   have c5:=c5.of (e4 k2 (by simp))
   have cm4:=cm3.of (e4 k (by simp))
   rw[E2,oD,Nat.zero_add,c5.ld,p0,oD,Q2,oD,I6]
   refine⟨fun k7=> ?_,fun k7=> ?_⟩
   ·simp only[E2,oD,Nat.zero_add,c5.ld,p4]
    refine(R7 h4).use ?_
    rintro v T5 ⟨h5,e5⟩
    have cm5:=cm4.of (e5 k (by simp))
    rw[D7,oD,l8 (by omega) (by omega)]
    obtain⟨m1,g1,_,_,_,_,i1,g2⟩:=next (rest:=a2S t.elem++a2S t.len) (by unfold tyB;rw[if_neg k6,if_pos k7]) (by rw[←List.append_assoc];exact h5) cm5
    exact⟨m1,g1,trivial,trivial,trivial,trivial,i1,g2⟩
   ·rw[D7,oD,l8 (by omega) (by omega)]
    exact next (rest:=a2S t.elem) (by unfold tyB;rw[if_neg k6,if_neg k7,List.append_nil]) h4 cm4
 have hi:i=m.types.length:=by omega
 subst hi
 rw[List.take_length]at hw
 rw[E2,oD,cm.ld,q1,oD,a8N,oD]
 refine(R7 hw).use ?_
 rintro v T2 ⟨h2,e2⟩
 have cm2:=cm.of (e2 k (by simp))
 simp only[E2,oD,Nat.zero_add,cm2.ld,q1,a8N]
 refine b6f (I:=fun n x1 x3 x76 x77 x78 T=>x1= .ptr k 0∧x3= .ptr kw 0∧x76=b1r m.texts∧x77= .int .i64 (m.texts.length:Int)∧∃i:Nat,x78= .int .i64 (i:Int)∧i+n=m.texts.length∧WAt S kw [k] (a2S m.types.length++(m.types.flatMap tyB++(a2S m.texts.length++(m.texts.take i).flatMap b4z))) T∧u9 T k 3 (M3 m)) ?_ (n:=m.texts.length)
  ⟨rfl,rfl,rfl,rfl,0,rfl,by omega,by simpa using h2,cm2⟩
 rintro n _ _ _ _ _ T ⟨rfl,rfl,rfl,rfl,i,rfl,hi,hw,cm⟩
 unfold a6d
 rw[H7,oD,I6]
 refine⟨fun hlt=> ?_,fun hge=> ?_⟩
 ·have hlt:i<m.texts.length:=by omega
  have et:m.texts[i]? =some m.texts[i]:=List.getElem?_eq_getElem hlt
  rw[c5Z et,oD,lsE,List.getElem?_cons_zero,oD]
  refine(b3d hw (hb.tx _ (List.getElem_mem _))).use ?_
  rintro v T3 ⟨h3,e3⟩
  have cm3:=cm.of (e3 k (by simp))
  rw[D7,oD,l8 (by omega) (by omega)]
  exact⟨n - 1,by omega,rfl,rfl,rfl,rfl,i+1,rfl,by omega,by rw[a3n et];simpa using h3,cm3⟩
 have hi:i=m.texts.length:=by omega
 subst hi
 rw[List.take_length]at hw
 rw[E2,oD,cm.ld,q2,oD,a6Y,oD]
 refine(R7 hw).use ?_
 rintro v T2 ⟨h2,e2⟩
 have cm2:=cm.of (e2 k (by simp))
 simp only[E2,oD,Nat.zero_add,cm2.ld,q2,a6Y]
 refine b6b (I:=fun n x3 x92 x93 x94 T=>x3= .ptr kw 0∧x92=a9d m.funcs∧x93= .int .i64 (m.funcs.length:Int)∧∃i:Nat,x94= .int .i64 (i:Int)∧i+n=m.funcs.length∧WAt S kw [] (a2S m.types.length++(m.types.flatMap tyB++(a2S m.texts.length++(m.texts.flatMap b4z++(a2S m.funcs.length++(m.funcs.take i).flatMap roB))))) T) ?_ (n:=m.funcs.length)
  ⟨rfl,rfl,rfl,0,rfl,by omega,by simpa using h2.less (av':=[]) (by simp)⟩
 rintro n _ _ _ _ T ⟨rfl,rfl,rfl,i,rfl,hi,hw⟩
 unfold a6J
 rw[H7,oD,I6]
 refine⟨fun hlt=> ?_,fun hge=> ?_⟩
 ·have hlt:i<m.funcs.length:=by omega
  obtain⟨t,ht⟩:∃t,t=m.funcs[i]:=⟨_,rfl⟩
  have et:m.funcs[i]? =some t:=by rw[List.getElem?_eq_getElem hlt,ht]
  have htm:t∈m.funcs:=by rw[ht];exact List.getElem_mem _
  obtain⟨b1,b2,b3,b4⟩:=hb.ro t htm
  rw[b3O et,oD,d7m,oD]
  intro k2 a2 n2
  refine(u9.new (sz:=6) (c:=[(.str []), .nilSlc, .nilSlc,(.int .i64 0),(.int .i64 0), .nilSlc])).st (ds:=L8 t) (U9 _) ⟨rfl,by decide,by decide⟩ fun a2=> ?_
  rw[b8.set_set,show l7 [(D.str []), .nilSlc, .nilSlc,(.int .i64 0),(.int .i64 0), .nilSlc] 0 (L8 t)=L8 t from rfl]
  have c6:u9 (T.set k2 ⟨6,[L8 t],a2⟩) k2 6 (L8 t):=u9.new
  have hw2:=hw.more (o:=⟨6,[L8 t],a2⟩) n2
  generalize T.set k2 ⟨6,[L8 t],a2⟩=T2 at*
  rw[E2,oD,Nat.zero_add,c6.ld,show(L8 t)[0]? =some (.str t.name) from rfl,oD]
  refine(b3d hw2 b1).use ?_
  rintro v T3 ⟨h3,e3⟩
  have c6:=c6.of (e3 k2 (by simp))
  rw[E2,oD,c6.ld,show(L8 t)[0+1]? =some (iD t.params) from rfl,oD]
  refine(c4a h3 (by omega)).use ?_
  rintro v T4 ⟨h4,e4⟩
  have c6:=c6.of (e4 k2 (by simp))
  rw[E2,oD,c6.ld,show(L8 t)[0+2]? =some (iD t.results) from rfl,oD]
  refine(c4a h4 (by omega)).use ?_
  rintro v T5 ⟨h5,e5⟩
  have c6:=c6.of (e5 k2 (by simp))
  rw[E2,oD,c6.ld,show(L8 t)[0+3]? =some (.int .i64 t.locals) from rfl,oD]
  refine(R7 h5).use ?_
  rintro v T6 ⟨h6,e6⟩
  have c6:=c6.of (e6 k2 (by simp))
  rw[E2,oD,c6.ld,show(L8 t)[0+4]? =some (.int .i64 t.stack) from rfl,oD]
  refine(R7 h6).use ?_
  rintro v T7 ⟨h7,e7⟩
  have c6:=c6.of (e7 k2 (by simp))
  rw[E2,oD,c6.ld,show(L8 t)[0+5]? =some (bD t.code) from rfl,oD,d8o,oD]
  refine(b3d h7 (by simpa [d5f]using b4)).use ?_
  rintro v T8 ⟨h8,e8⟩
  rw[D7,oD,l8 (by omega) (by omega)]
  refine⟨n - 1,by omega,rfl,rfl,rfl,i+1,rfl,by omega, ?_⟩
  rw[a3n et]
  have:=h8.less (av':=[]) (by simp)
  simpa [roB]using this
 ·have hi:i=m.funcs.length:=by omega
  subst hi
  rw[List.take_length]at hw
  obtain⟨h1,_,_,_,L,t,h5,h6,h7⟩:=hw
  rw[ndP,oD,E2,oD,h6.ld,show[t][0+0]? =some t from rfl,oD]
  rcases h7 with ⟨rfl,e⟩|⟨kL,acs,z0,z1,rfl,z3⟩
  ·have hL:L=[]:=by simpa [B4]using e
   subst hL
   exact d9.nil (sz:=1) (d9.less h1 (d9.here ⟨rfl,[],h5,rfl⟩))
  ·refine d9.freeze z3 rfl (by simp) (Nat.le_refl _) (d9.less (b8.le_erase h1 z0) (d9.here ⟨rfl,L,h5, ?_⟩))
   rw[List.drop_zero,List.take_length];rfl
end
end
section
def a3G(m:Mo):List Int×Int:=
 if Q5 m≠0 then([],Q5 m) else if 2097140<(W7 m).length then([],3)
 else([84,82,77,1]++(H8 (W7 m).length 4++(W7 m++H8 (c4m (W7 m)) 4)),0)
theorem b2Z{α:Type}{f:α→Int}:∀ {l:List α},O8 f l=0→∀a∈l,f a=0
 | [],_,a,h=>by cases h
 |b::l,h,a,ha=>by
  rw[O8]at h
  split at h
  ·rename_i hb
   rcases List.mem_cons.1 ha with rfl|ha
   ·exact hb
   ·exact b2Z h a ha
  ·rename_i hb;exact(hb h).elim
theorem b7q{m:Mo}(h:Q5 m=0):(m.types.length≤256∧m.texts.length≤32768∧m.funcs.length≤256)∧(∀t∈m.types,a7R t=false∧a0L m t=true)∧(∀t∈m.texts,t.length≤65536)∧(∀r∈m.funcs,a3k r=false∧a3m m r=true):=by
 unfold Q5 at h
 split at h
 ·cases h
 rename_i h0
 split at h
 ·rename_i h1;exact(h1 h).elim
 rename_i h1
 split at h
 ·cases h
 rename_i h2
 have h1:O8 (a5E m) m.types=0:=Classical.not_not.1 h1
 refine⟨by omega,fun t ht=> ?_,fun t ht=> ?_,fun r hr=> ?_⟩
 ·have:=b2Z h1 t ht
  unfold a5E at this
  split at this
  ·cases this
  ·rename_i g1
   split at this
   ·rename_i g2;exact⟨by simpa using g1,g2⟩
   ·cases this
 ·have h2:(m.texts.any fun t=>decide (t.length>65536))=false:=by simpa using h2
  have:=List.any_eq_false.1 h2 t ht
  simp at this;exact this
 ·have:=b2Z h r hr
  unfold a8W at this
  split at this
  ·cases this
  ·rename_i g1
   split at this
   ·rename_i g2;exact⟨by simpa using g1,g2⟩
   ·cases this
theorem d0Q{t:Ty}(h:a7R t=false):t.name.length≤65536∧t.fields.length≤32∧∀f∈t.fields,f.1.length≤65536:=by
 unfold a7R at h
 simp only[Bool.or_eq_false_iff,decide_eq_false_iff_not,List.any_eq_false,decide_eq_true_eq]at h
 exact⟨by omega,by omega,fun f hf=>by have:=h.2 f hf;omega⟩
theorem c2e{r:Ro}(h:a3k r=false):r.name.length≤65536∧r.params.length≤32∧r.results.length≤8∧r.code.length≤65536∧r.locals≤256∧r.stack≤4096:=by
 unfold a3k at h
 simp only[Bool.or_eq_false_iff,decide_eq_false_iff_not]at h
 omega
theorem d4y{m:Mo}(h:Q5 m=0):m.Brief:=by
 obtain⟨_,h1,h2,h3⟩:=b7q h
 exact⟨fun t ht=>d0Q (h1 t ht).1,h2,fun r hr=>by have:=c2e (h3 r hr).1;omega⟩
section
variable{E:j2}{w0:j9}
theorem b8a{m:Mo}(hm:m.Fits){S:b8}:j8 Tryz.prog E w0 a3b [moD m] S fun d S'=>∃v,d= .tup [v, .int .i64 (a3G m).2]∧b6A S v (a3G m).1 S':=by
 refine b6O ?_
 unfold b1V
 rw[moD,U9,oD]
 intro k a n
 have c0:u9 (S.set k ⟨3,[M3 m],a⟩) k 3 (M3 m):=u9.new
 have hle:S.le (S.set k ⟨3,[M3 m],a⟩):=b8.le_new n
 rw[show(M3 m).length=3 from rfl]
 generalize S.set k ⟨3,[M3 m],a⟩=S1 at*
 have lm:i5 S1 3 (.ptr k 0)=some (moD m):=c0.all (by decide) rfl
 rw[lm,oD]
 refine(b4W hm).use ?_
 rw[a3s,oD,I6]
 have none:∀e:Int,a3G m=([],e)→d9 E (fun d S'=>∃v,d= .tup [v, .int .i64 (a3G m).2]∧b6A S v (a3G m).1 S') (.tup [.nilSlc, .int .i64 e]) S1:=fun e he=>by
  rw[he]
  exact d9.less hle (d9.here ⟨.nilSlc,rfl,Grw.nil _ _⟩)
 refine⟨fun h=>none _ (by unfold a3G;rw[if_pos h]),fun h=> ?_⟩
 have h0:Q5 m=0:=Classical.not_not.1 h
 rw[lm,oD]
 refine(c4A hm (d4y h0)).use ?_
 rintro v T ⟨rfl,L,hw,rfl⟩
 rw[a2C,oD,a7w,oD,I6]
 have hL:=hw.len
 refine⟨fun hgt=>none _ ?_,fun hgt=> ?_⟩
 ·have:2097140<(W7 m).length:=by
   rcases hw with ⟨_,rfl⟩|⟨h,_⟩<;>omega
  unfold a3G;rw[if_neg (by rw[h0];simp),if_pos this]
 have hgt:¬2097140<L.length:=by omega
 have hLb:L=W7 m:=by
  rcases hw with ⟨_,rfl⟩|⟨_,h⟩
  ·rfl
  ·omega
 subst hLb
 have he:a3G m=([84,82,77,1]++(H8 (W7 m).length 4++(W7 m++H8 (c4m (W7 m)) 4)),0):=by
  unfold a3G;rw[if_neg (by rw[h0];simp),if_neg hgt]
 rw[show m8 1 (List.replicate 4 [D.int .u8 0]) [(0, .int .u8 84),(1, .int .u8 82),(2, .int .u8 77),(3, .int .u8 1)]=some (B4 (([84,82,77,1]:List Int).map (D.int .u8))) from rfl]
 simp only[r9,oD]
 refine .inr fun k2 a2 n2=> ?_
 simp only[d1l,b8.set_same]
 rw[if_pos (by decide)]
 refine .inr ⟨⟨by trivial,by decide,by decide⟩, ?_⟩
 rw[b8.erase_set _ _ _ n2]
 have e4:(D.lst (((B4 (([84,82,77,1]:List Int).map (D.int .u8))).drop 0).take 4) 1)=bD [84,82,77,1]:=rfl
 rw[e4]
 simp only[a2C,oD,cvI]
 refine(a4s (s:=4) (by decide) (by decide)).use ?_
 refine(c7Q (by omega)).use ?_
 rw[cvI,oD]
 refine(a4s (s:=4) (by decide) (by decide)).use ?_
 rw[b2I,b2I,b8e _ (by decide),b8e _ (by decide)]
 have hl4:m8 1 (List.replicate 4 [D.nilSlc]) [(0,bD [84,82,77,1]),(1,bD (H8 (W7 m).length 4)),(2,bD (W7 m)),(3,bD (H8 (c4m (W7 m)) 4))]=some ([[84,82,77,1],H8 (W7 m).length 4,W7 m,H8 (c4m (W7 m)) 4].map fun b=>[bD b]):=rfl
 have hnew:d0K T 1 ([[84,82,77,1],H8 (W7 m).length 4,W7 m,H8 (c4m (W7 m)) 4].map fun b=>[bD b]) 4 4 true (fun v24 S25=>j8 Tryz.prog E w0 K1 [v24] S25 fun v26 S27=>d9 E (fun d S'=>∃v,d= .tup [v, .int .i64 (a3G m).2]∧b6A S v (a3G m).1 S') (.tup [v26, .int .i64 0]) S27):=by
  refine .inl ?_
  show j8 Tryz.prog E w0 K1 [b3h [[84,82,77,1],H8 (W7 m).length 4,W7 m,H8 (c4m (W7 m)) 4]] T _
  refine(d0r (by simp[u6];omega) (by simp)).use fun v S27 hg=> ?_
  have:([[84,82,77,1],H8 (W7 m).length 4,W7 m,H8 (c4m (W7 m)) 4]:List (List Int)).flatten=[84,82,77,1]++(H8 (W7 m).length 4++(W7 m++H8 (c4m (W7 m)) 4)):=by simp
  rw[this]at hg
  rcases hg with hg|⟨e,_⟩
  ·obtain⟨S',s1,s2⟩:=hg.base hle
   exact d9.less s1 (d9.here ⟨v,by rw[he],by rw[he];exact s2⟩)
  ·simp[B4]at e
 simpa only[hl4,oD]using hnew
theorem c0O{m:Mo}(hm:m.Fits):K9 Tryz.prog E w0 a3b [moD m] (.tup [bD (a3G m).1, .int .i64 (a3G m).2]):=fun S=>(b8a hm).fin fun d S' ⟨v,e,hg⟩=>by
 subst e
 exact d9.grwT (pre:=[]) (post:=[.int .i64 (a3G m).2]) hg d9.pure
theorem c3o{m:Mo}(hm:m.Fits):K9 Tryz.prog E w0 a8w [moD m] (.int .i64 (a3G m).2):=fun S=>by
 refine b8U ?_
 unfold b4P
 rw[moD,U9,oD]
 intro k a n
 have c0:u9 (S.set k ⟨3,[M3 m],a⟩) k 3 (M3 m):=u9.new
 rw[show(M3 m).length=3 from rfl]
 have lm:i5 (S.set k ⟨3,[M3 m],a⟩) 3 (.ptr k 0)=some (moD m):=c0.all (by decide) rfl
 rw[lm,oD]
 refine(c0O hm).use ?_
 simp only[exD,List.getElem?_cons_zero,List.getElem?_cons_succ,oD]
 exact d9.drop n d9.pure
end
end
end Go.Proofs.YtdkidgkiplcggaaGreat.d
end
section
namespace Go.Am
section
open Go.Sort
def d3M(out:Option Nat)(a:Option Addr)(c:Nat):Value:=match out with
 |none=> .tuple #[]
 |some m=> .slice a m c
structure b8c (P:Program) (f:FuncId) (g:List Int→List Int) (out:List Int→Option Nat):Prop where
 has:∀(blk off cap:Nat) (zs:List Int) (w:World),Holds (Value.int .i64) w blk off zs.toArray→blk<w.heap.size→zs.length<4611686018427387904→zs.length≤cap→
  Calls P f #[.slice (some ⟨blk,off,none⟩) zs.length cap] w fun e w'=>e= .returned (d3M (out zs) (some ⟨blk,off,none⟩) cap)∧∃n os,w'=grow (putRow (Value.int .i64) (Sort.ahead w n) blk off (g zs).toArray) os
 empty:∀(a:Option Addr) (cap:Nat) (w:World),Calls P f #[.slice a 0 cap] w fun e w'=>e= .returned (d3M (out []) a cap)∧w'=w
 len:∀zs,(g zs).length=zs.length
 outL:∀zs m,out zs=some m→m≤zs.length
theorem G3.growW{E:j2}{w0:World}{H:AHeap}{w:World}{ρ:B2}(R:G3 E w0 H w ρ)(os:Array Obj):G3 E w0 H (grow w os) ρ:=by
 have hp:∀b,b<w.heap.size→(grow w os).heap[b]? =w.heap[b]? :=fun b hb=>by
  show(w.heap++os)[b]? =_
  rw[Array.getElem?_append,if_pos hb]
 exact⟨by rw[size_grow];have:=R.size;omega,fun b hb=>by rw[hp b (by have:=R.size;omega)];exact R.old b hb,R.env,R.side,
  fun k o e=>let ⟨l,h1,h2,h3⟩:=R.objs k o e;⟨l,h1,h2,P9 h3 (hp _ (a3A h3))⟩,R.apart,R.pres,R.kin⟩
theorem b6d:∀(vs:List Value) (a:Array Value) (i j:Nat),i+vs.length≤a.size→(E9 a i vs)[j]? =if i≤j∧j<i+vs.length then vs[j - i]? else a[j]?
 | [],a,i,j,_=>by rw[E9,List.length_nil,if_neg (by omega)]
 |v::vs,a,i,j,h=>by
  rw[List.length_cons]at h
  rw[E9,b6d vs _ _ _ (by simp;omega),List.length_cons,Array.getElem?_setIfInBounds]
  by_cases e:i=j
  ·subst e
   rw[if_neg (by omega),if_pos rfl,if_pos (by omega),if_pos ⟨by omega,by omega⟩,Nat.sub_self]
   rfl
  ·rw[if_neg e]
   by_cases hc:i+1≤j∧j<i+1+vs.length
   ·rw[if_pos hc,if_pos ⟨by omega,by omega⟩,show j - i=(j - (i+1))+1 by omega]
    rfl
   ·rw[if_neg hc,if_neg (by omega)]
theorem c4P(off:Nat)(d:List Int)(arr:Array Value)(h:off+d.length≤arr.size):putCells (Value.int .i64) off d.toArray arr=E9 arr off (d.map (Value.int .i64)):=by
 apply Array.ext_getElem?
 intro j
 rw[b6d _ _ _ _ (by simpa using h),putCells,Array.getElem?_mapIdx,List.length_map]
 by_cases hc:off≤j∧j<off+d.length
 ·rw[if_pos hc,Array.getElem?_eq_getElem (by omega),Option.map_some,if_pos (by simpa using hc),List.getElem?_map,List.getElem?_eq_getElem (by omega)]
  simp only[Option.map_some,Option.some.injEq,Value.int.injEq,true_and]
  rw[getElem!_pos _ _ (by simp;omega)]
  simp
 ·rw[if_neg hc]
  cases hj:arr[j]? with
  |none=>rfl
  |some v=>simp only[Option.map_some];rw[if_neg (by simpa using hc)]
theorem c5n{ρ:B2}:∀(l:List Int),s8 ρ (l.map (.int .i64)) (l.map (Value.int .i64))
 | []=>by rw[List.map_nil,List.map_nil,r8]
 |n::l=>by rw[List.map_cons,List.map_cons,o9];exact⟨by simp only[rel],c5n l⟩
theorem b1Q:∀(l:List Int),(l.map (AV.int .i64)).all s0=true
 | []=>rfl
 |n::l=>by rw[List.map_cons,List.all_cons,b1Q l];rfl
section
variable{P:Program}{f:FuncId}{g:List Int→List Int}{out:List Int→Option Nat}
def d3b(out:Option Nat)(k i cap:Nat)(ex:Bool):AV:=match out with
 |none=>C1
 |some m=> .slc (.new k) i m cap ex 1
theorem c8K{ρ:B2}{out:Option Nat}{k i len cap:Nat}{ex:Bool}{a:Addr}{c:Nat}(h:rel ρ (.slc (.new k) i len cap ex 1) (.slice (some a) len c))(ho:∀m,out=some m→m≤len):rel ρ (d3b out k i cap ex) (d3M out (some a) c):=by
 cases out with
 |none=>simp only[d3b,d3M,C1,rel];exact⟨#[],rfl,by rw[r8]⟩
 |some m=>
  simp only[rel]at h
  obtain⟨a',c',e,h1,h2,h3,h4,h5⟩:=h
  cases e
  simp only[d3b,d3M,rel]
  exact⟨a,c,rfl,by have:=ho m rfl;omega,h2,h3,h4,h5⟩
theorem b8c.fnW(h:b8c P f g out){E:j2}{w0:a8D}{H:AHeap}{k i len cap:Nat}{ex:Bool}{cs:List AV}{pre:List Nat}{zs:List Int}(hk:H.get k=some (.cells cs true pre))(hi:i+len≤cs.length)
  (hz:(cs.drop i).take len=zs.map (.int .i64)) (hb:len<4611686018427387904) {Q:AV→AHeap→Prop} (hQ:∀H',B6 H (.new k) i ((g zs).map (.int .i64))=some H'→Q (d3b (out zs) k i cap ex) H'):
  FnW P E w0 f [.slc (.new k) i len cap ex 1] H Q:=by
 intro w ρ vargs R hf hr
 obtain⟨vs⟩:=vargs
 simp only[s8]at hr
 obtain⟨v,rest,rfl,hv,rfl⟩:=hr
 have hzl:zs.length=len:=by
  have:=congrArg List.length hz
  rw[List.length_take,List.length_drop,List.length_map]at this
  omega
 have hv0:=hv
 simp only[rel]at hv
 obtain⟨a,c,rfl,h1,h2,h3,h4,h5⟩:=hv
 by_cases h0:len=0
 ·subst h0
  have hz0:zs=[]:=List.length_eq_zero_iff.1 hzl
  subst hz0
  have hg:g []=[]:=List.length_eq_zero_iff.1 (by rw[h.len];rfl)
  refine Calls.mono (h.empty (some a) c w) ?_
  rintro e w' ⟨rfl,rfl⟩
  exact⟨ρ,_,H,hQ H (by rw[hg];rfl),⟨Ext.refl _,Nat.le_refl _,fun _ _=>rfl⟩,c8K hv0 (fun m hm=>h.outL [] m hm),R⟩
 ·rcases h4 with h4|⟨b,d,hbd,rfl⟩
  ·omega
  obtain⟨l,hl,hs,arr,el,lo,hi',e0,e1,e2,e3,e4⟩:=R.objs k _ hk
  simp only[J1,hl,Option.map_some,Option.some.injEq,Prod.mk.injEq]at hbd
  obtain⟨rfl,rfl⟩:=hbd
  have hblk:=(Array.getElem?_eq_some_iff.1 e0).1
  have hH:Holds (Value.int .i64) w l.blk (l.d+i) zs.toArray:=by
   intro j hj
   have hj':j<zs.length:=by simpa using hj
   have hcj:cs[i+j]? =some (.int .i64 zs[j]):=by
    have:=congrArg (fun l=>l[j]?) hz
    simp only[List.getElem?_map]at this
    rw[List.getElem?_eq_getElem hj',b5Z _ _ _ _ (by omega)]at this
    exact this
   obtain⟨u,hu1,hu2⟩:=a4P e3 (i+j) hcj
   simp only[rel]at hu2
   subst hu2
   rw[b5Z _ _ _ _ (by omega)]at hu1
   refine⟨?_, ?_⟩
   ·rw[a7P e0, ←Array.getElem?_toList,show l.d+i+j=l.d+(i+j) by omega,hu1,getElem!_pos zs.toArray j hj]
    simp
   ·rw[b4v e0]
    rcases e4 rfl with e|e
    ·subst e;simp only[Bool.and_eq_false_iff,decide_eq_false_iff_not];omega
    ·simp only[Bool.and_eq_false_iff,decide_eq_false_iff_not];omega
  have hcall:=h.has l.blk (l.d+i) c zs w hH hblk (by omega) (by omega)
  rw[hzl]at hcall
  refine Calls.mono hcall ?_
  rintro e w' ⟨rfl,n,os,rfl⟩
  have hgl:(g zs).length=len:=by rw[h.len,hzl]
  have hst:B6 H (.new k) i ((g zs).map (.int .i64))=some ((H.killAll pre).set k (.cells (B5 cs i ((g zs).map (.int .i64))) true [])):=by
   cases hgz:(g zs).map (AV.int .i64) with
   |nil=>exact absurd (by rw[←hgl, ←List.length_map (f:=AV.int .i64),hgz];rfl) h0
   |cons x xs=>
    have hx:=congrArg List.length hgz
    rw[List.length_map,List.length_cons]at hx
    exact a3r hk i x xs (by omega) (by rw[←hgz];exact b1Q _)
  have hrel:s8 ρ ((g zs).map (.int .i64)) ((g zs).map (Value.int .i64)):=c5n _
  have hR:=R.write (arr':=E9 arr (l.d+i) ((g zs).map (Value.int .i64))) (cs':=B5 cs i ((g zs).map (.int .i64))) hk hl e0 (N9 _ _ _) (a1H _ _ _)
   (by rw[a1H];exact a5G i hrel (by simp;omega) e3)
  refine⟨ρ,_,_,hQ _ hst,⟨Ext.refl _,by simp,fun _ _=>rfl⟩,c8K hv0 (fun m hm=>by have:=h.outL zs m hm;omega),G3.growW ?_ os⟩
  refine hR.heap_eq ?_
  show w.heap.modify l.blk (onCells (putCells (Value.int .i64) (l.d+i) (g zs).toArray))=w.heap.setIfInBounds l.blk _
  apply Array.ext_getElem?
  intro j
  rw[Array.getElem?_modify,Array.getElem?_setIfInBounds]
  by_cases hj:l.blk=j
  ·subst hj
   rw[if_pos rfl,if_pos rfl,if_pos hblk,e0,Option.map_some]
   simp only[onCells]
   rw[c4P _ _ _ (by omega)]
  ·rw[if_neg hj,if_neg hj]
def d6Z(out:Option Nat)(k i cap:Nat)(ex:Bool):D:=match out with
 |none=>b9
 |some m=> .raw k i m cap ex 1
def a0Z(l:List Int):List (List D):=l.map fun n=>[.int .i64 n]
theorem b8c.fnD(h:b8c P f g out){E:j2}{w0:j9}{S:b8}{k i len cap:Nat}{ex:Bool}{o:D5}(hk:S k=some o)(ho:o.sz=1)(hi:i+len≤o.rows.length){zs:List Int}(hz:(o.rows.drop i).take len=a0Z zs)(hb:len<4611686018427387904){Q:D→b8→Prop}
  (hQ:∀acs,Q (d6Z (out zs) k i cap ex) (S.set k ⟨1,o.rows.take i++(a0Z (g zs)++o.rows.drop (i+len)),acs⟩)):j8 P E w0 f [.raw k i len cap ex 1] S Q:=by
 intro R H avs F hC ha
 simp only[A7]at ha
 obtain⟨v,vs,rfl,hv,rfl⟩:=ha
 simp only[Rp]at hv
 obtain⟨_,rfl⟩:=hv
 obtain⟨h1,⟨pre,h2⟩,h3,h4,h5⟩:=hC.cells hk (.inl (by rw[ho];decide))
 rw[ho]at h4
 have hal:=h5.length
 rw[u5 h4,Nat.mul_one]at hal
 have hzl:zs.length=len:=by
  have:=congrArg List.length hz
  rw[List.length_take,List.length_drop,a0Z,List.length_map]at this
  omega
 have fd:∀n,(o.rows.drop n).flatten=o.rows.flatten.drop n:=fun n=>by have:=a2D h4 n;rw[Nat.mul_one]at this;exact this.symm
 have ft:∀n,(o.rows.take n).flatten=o.rows.flatten.take n:=fun n=>by have:=a1L h4 n;rw[Nat.mul_one]at this;exact this.symm
 have hrow:A7 E R (a0Z zs).flatten ((o.acs.drop i).take len):=by
  have h6:((o.rows.drop i).take len).flatten=(o.rows.drop i).flatten.take len:=by
   have:=a1L (fun row hr=>h4 row (List.mem_of_mem_drop hr):∀row∈o.rows.drop i,row.length=1) len
   rw[Nat.mul_one]at this;exact this.symm
  rw[←hz,h6,fd]
  exact(h5.drop i).take len
 have hints:∀(l:List Int) (vs:List AV),A7 E R (a0Z l).flatten vs→vs=l.map (.int .i64):=by
  intro l
  induction l with
  |nil=>intro vs hv;simp only[a0Z,List.map_nil,List.flatten_nil,A7]at hv;rw[hv];rfl
  |cons n l ih=>
   intro vs hv
   simp only[a0Z,List.map_cons,List.flatten_cons,List.cons_append,List.nil_append,A7,Rp]at hv
   obtain⟨v,vs,rfl,rfl,hv⟩:=hv
   rw[ih vs hv];rfl
 have hints':∀(l:List Int),A7 E R (a0Z l).flatten (l.map (.int .i64)):=by
  intro l
  induction l with
  |nil=>exact D6
  |cons n l ih=>exact s9 (by simp only[Rp]) ih
 have hlen:(g zs).length=len:=by rw[h.len,hzl]
 have hrl:∀row∈a0Z (g zs),row.length=1:=fun row hr=>by
  rw[a0Z,List.mem_map]at hr
  obtain⟨n,_,rfl⟩:=hr
  rfl
 have hrl':∀row∈o.rows.take i++(a0Z (g zs)++o.rows.drop (i+len)),row.length=1:=fun row hr=>by
  rcases List.mem_append.1 hr with hr|hr
  ·exact h4 row (List.mem_of_mem_take hr)
  ·rcases List.mem_append.1 hr with hr|hr
   ·exact hrl row hr
   ·exact h4 row (List.mem_of_mem_drop hr)
 have hil:(a0Z (g zs)).length=len:=by rw[a0Z,List.length_map,hlen]
 have hflat:(o.rows.take i++(a0Z (g zs)++o.rows.drop (i+len))).flatten=l7 o.rows.flatten i (a0Z (g zs)).flatten:=by
  rw[b7z (by rw[u5 hrl,hil,u5 h4];omega),u5 hrl,hil,Nat.mul_one, ←ft, ←fd,List.flatten_append,List.flatten_append]
 have hscl:=b1Q (g zs)
 rw[Nat.mul_one]
 refine h.fnW h2 (by omega) (hints _ _ hrow) hb fun H' hst=> ?_
 have hout:∀R',Rp E R' (d6Z (out zs) k i cap ex) (d3b (out zs) k i cap ex):=fun R'=>by
  cases out zs with
  |none=>exact a1s
  |some m=>simp only[d6Z,d3b,Rp,Nat.mul_one];exact⟨by decide,trivial⟩
 by_cases h0:len=0
 ·have hg0:g zs=[]:=List.length_eq_zero_iff.1 (by omega)
  rw[hg0]at hst
  cases hst
  refine⟨F,R,_,_,Fz.le_refl R, ?_,hout R,hQ o.acs⟩
  refine hC.put h1 h2 (fun p hp=>hC.safe k o hk p (by rw[U3 h2];exact hp)) h3 hrl' ?_
  show A7 E R (o.rows.take i++(a0Z (g zs)++o.rows.drop (i+len))).flatten _
  rw[hg0,h0]
  simpa [a0Z]using h5
 ·obtain⟨H1,e1,e2,e3,e4,F'⟩:=F.stores h2 (n:=i) (vs:=(g zs).map (.int .i64)) (fun e=>h0 (by rw[←hlen, ←List.length_map (f:=AV.int .i64),e];rfl)) (by simp;omega) hscl
  rw[e1]at hst
  cases hst
  refine⟨F',R,_,_,Fz.le_refl R, ?_,hout R,hQ (B5 o.acs i ((g zs).map (.int .i64)))⟩
  have hS:S.set k ⟨1,o.rows.take i++(a0Z (g zs)++o.rows.drop (i+len)),B5 o.acs i ((g zs).map (.int .i64))⟩=(S.erase k).set k ⟨1,o.rows.take i++(a0Z (g zs)++o.rows.drop (i+len)),B5 o.acs i ((g zs).map (.int .i64))⟩:=by
   funext j;simp only[b8.set,b8.erase];split<;>rfl
  rw[hS]
  refine(hC.but F' e3 hk (fun cs e=>by rw[h1]at e;cases e)).put h1 (pre:=[]) e2 (fun p hp=>by cases hp) (Y9 h3 hscl) hrl' ?_
  show A7 E R (o.rows.take i++(a0Z (g zs)++o.rows.drop (i+len))).flatten _
  rw[hflat]
  exact a2Q h5 (hints' _)
end
end
section
section
variable{P:Program}{E:j2}{w0:j9}{R:Fz}{S:b8}{H:AHeap}
theorem d7x(hC:z7 E R S H){k:Nat}{o:D5}(hk:S k=some o){i len cap:Nat}{ex:Bool}{sz:Nat}{v:AV}(hv:Rp E R (.raw k i len cap ex sz) v)(hsz:o.sz=sz)(hl:i+len=o.rows.length)(hc:len≤cap):
  Rp E (fun j=>if j=k then some o.acs else R j) (.tip k (o.rows.drop i) sz) v:=by
 simp only[Rp]at hv
 obtain⟨hzm,rfl⟩:=hv
 have hom:o.sz<Q3:=by rw[hsz];exact hzm
 obtain⟨h1,⟨pre,h2⟩,h3,h4,h5⟩:=hC.cells hk (.inl hom)
 obtain⟨_,hle⟩:=hC.freeze hk (.inl hom)
 rw[hsz]at h4
 have hlen:(o.rows.drop i).length=len:=by rw[List.length_drop];omega
 have hd:∀row∈o.rows.drop i,row.length=sz:=fun row hr=>h4 row (List.mem_of_mem_drop hr)
 have hal:=h5.length
 rw[u5 h4]at hal
 have hend:i*sz+len*sz=o.acs.length:=by rw[hal, ←Nat.add_mul,hl]
 simp only[Rp]
 refine⟨hzm,i*sz,cap,ex,o.acs,by rw[hlen],by rw[hlen];exact hc,hd,by simp, ?_,M2 (a1y h3 _) _,by rw[hlen];exact hend⟩
 rw[hlen,I4, ←a2D h4]
 rw[List.take_of_length_le (by rw[List.length_drop];omega)]
 exact A7.le hle _ _ (h5.drop _)
theorem d9.tipT{Q:D→b8→Prop}{k:Nat}{o:D5}(hk:S k=some o){i len cap:Nat}{ex:Bool}{sz:Nat}(hsz:o.sz=sz)(hl:i+len=o.rows.length)(hc:len≤cap){lp lq:List D}{acs:List AV}
  (h:d9 E Q (.tup (lp++ .tip k (o.rows.drop i) sz::lq)) (S.set k (d3Y acs))):d9 E Q (.tup (lp++ .raw k i len cap ex sz::lq)) S:=fun R H v hC hd=>by
 simp only[Rp]at hd
 obtain⟨vs,rfl,hv⟩:=hd
 obtain⟨v1,v2,rfl,g1,g2⟩:=a5V hv
 simp only[A7]at g2
 obtain⟨w,ws,rfl,g3,g4⟩:=g2
 have hzm:sz<Q3:=by simp only[Rp]at g3;exact g3.1
 obtain⟨h1,h2⟩:=hC.toTip hk (.inl (by rw[hsz];exact hzm)) acs
 obtain⟨R',S',d',a,b,c,e⟩:=h _ H (.tup (v1++w::ws)) h1 (by
  simp only[Rp]
  exact⟨_,rfl,(A7.le h2 _ _ g1).append (s9 (d7x hC hk g3 hsz hl hc) (A7.le h2 _ _ g4))⟩)
 exact⟨R',S',d',Fz.le_trans h2 a,b,c,e⟩
theorem Wk.tip(k:Nat)(rows:List (List D))(sz:Nat):Wk (.tip k rows sz) (.lst rows sz):=fun E R v h=>by
 simp only[Rp]at h ⊢
 obtain⟨_,j,cap,ex,all,rfl,q1,q2,q3,q4,q5,q6⟩:=h
 exact .inr ⟨.new k,j,cap,ex,sz,rfl,rfl,q1,q2, .inr ⟨all,q3,q4,q5⟩⟩
theorem d4b{k sz bytes:Nat}{rows news:List (List D)}{acs:List AV}(hk:S k=some (d3Y acs))(hn:news≠[])(hb:0<bytes∧(2*(rows.length+news.length)+768)*bytes≤2^47){K:D→b8→Prop}
  (hK:K (.lst (rows++news) sz) (S.erase k)):a1d S sz bytes (.tip k rows sz) news K:=by
 simp only[a1d]
 rw[if_neg hn,hk]
 simp only
 rw[if_pos ⟨by trivial,by trivial⟩]
 exact⟨hb,hK⟩
end
end
end Go.Am
end
