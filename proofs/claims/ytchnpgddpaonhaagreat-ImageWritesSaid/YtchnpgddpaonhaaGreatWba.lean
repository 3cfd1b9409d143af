/- A part of the proof of ImageWrites. -/
import Derived.Test.YtchnpgddpaonhaaGreatWaq
import Derived.Test.YtchnpgddpaonhaaGreatWar
import Derived.Test.YtchnpgddpaonhaaGreatWaw
import Derived.Test.YtchnpgddpaonhaaGreatWaz
import Derived.Test.YtchnpgddpaonhaaGreatRows
import Derived.Test.YtchnpgddpaonhaaGreatWap
import Derived.KernelRfl
import Derived.Test.YtchnpgddpaonhaaGreatWau
set_option linter.unusedVariables false
set_option linter.unusedSimpArgs false
set_option maxRecDepth 100000
section
open Go.Proofs Go Go.Am Go.Op
namespace Go.Proofs.YtchnpgddpaonhaaGreat.d
section
def b4Z:Nat→Nat→List Int
 |0,n=>[(n:Int)]
 |f+1,n=>if n<128 then[(n:Int)]else((n % 128+128:Nat):Int)::b4Z f (n / 128)
def d7I(n:Nat):List Int:=b4Z 9 n
def A7(n:Int):List Int:=d7I (n % 18446744073709551616).toNat
def d9R(a b:Int):Int:=IntKind.u32.wrap (BitVec.ofInt IntKind.u32.bits a &&& BitVec.ofInt IntKind.u32.bits b).toNat
def d3c(a b:Int):Int:=IntKind.u32.wrap (BitVec.ofInt IntKind.u32.bits a ^^^ BitVec.ofInt IntKind.u32.bits b).toNat
def d1S(s:Int):Int:=d3c (s.fdiv (2^(min (1:Int).toNat IntKind.u32.bits))) (d9R 3988292384 (IntKind.u32.wrap (0 - d9R s 1)))
def b3c(s b:Int):Int:=Nat.repeat d1S 8 (d3c s (IntKind.u32.wrap b))
def b8c(bs:List Int):Int:=IntKind.u32.wrap (BitVec.ofInt IntKind.u32.bits IntKind.u32.max ^^^ BitVec.ofInt IntKind.u32.bits (bs.foldl b3c 4294967295)).toNat
def GrZ(S0:b9)(t:D)(rows:List (List D))(sz:Nat)(S:b9):Prop:=Grw S0 t rows sz S∨(rows=[]∧∃k cap ex zr acs,S0 k=none∧t= .raw k 0 0 cap ex sz∧S=S0.set k ⟨sz,zr,acs⟩)
section
variable{S0 S:b9}{t:D}{rows:List (List D)}{sz:Nat}
theorem GrZ.push(h:GrZ S0 t rows sz S){bytes:Nat}{v:D}{news:List (List D)}(hv:rowsS S sz v=some news)(hn:news≠[])(hb:0<bytes∧(2*(rows.length+news.length)+768)*bytes≤2^47){K:D→b9→Prop}(hK:∀t' S',Grw S0 t' (rows++news) sz S'→K t' S'):r6 S sz bytes t v K:=by
 rcases h with h|⟨rfl,k,cap,ex,zr,acs,h0,rfl,rfl⟩
 ·exact h.push hv hb hK
 ·simp only[r6,hv,a7T]
  rw[if_neg hn,b9.set_same]
  simp only
  rw[if_pos ⟨by trivial,by trivial,by omega⟩]
  refine⟨by simpa using hb, .inr fun k' acs' hk'=> ?_⟩
  rw[b9.erase_set _ _ _ h0]at hk' ⊢
  refine hK _ _ (.inr ⟨k',acs',hk', ?_, ?_⟩)<;>simp
theorem GrZ.last(h:GrZ S0 t rows sz S){bytes:Nat}{v:D}{news:List (List D)}(hv:rowsS S sz v=some news)(hn:news≠[])(hb:0<bytes∧(2*(rows.length+news.length)+768)*bytes≤2^47){K:D→b9→Prop}(hK:K (.lst (rows++news) sz) S0):r6 S sz bytes t v K:=by
 rcases h with h|⟨rfl,k,cap,ex,zr,acs,h0,rfl,rfl⟩
 ·exact h.last hv hn hb hK
 ·simp only[r6,hv,a7T]
  rw[if_neg hn,b9.set_same]
  simp only
  rw[if_pos ⟨by trivial,by trivial,by omega⟩]
  refine⟨by simpa using hb, .inl ?_⟩
  rw[b9.erase_set _ _ _ h0,List.take_of_length_le (by simp)]
  simpa using hK
end
section
variable{E:j6}{w0:World}
theorem e2G(n:Nat):i6 .or (.int .u8 (IntKind.u8.wrap (n:Int))) (.int .u8 128)=some (.int .u8 ((n % 128+128:Nat):Int)):=by
 rw[e2A,b0y,b0y]
 have h8:IntKind.u8.bits=8:=rfl
 rw[h8]
 have e1:((n:Int) % 256)=((n % 256:Nat):Int):=by omega
 rw[e1]
 have e2:(BitVec.ofInt 8 ((n % 256:Nat):Int) ||| BitVec.ofInt 8 128).toNat=n % 128+128:=by
  rw[BitVec.toNat_or,a6g]
  have:(BitVec.ofInt 8 128).toNat=128:=rfl
  rw[this]
  have h:=c9d (a:=n % 128) (b:=1) (i:=7) (by omega)
  have:n % 256 % 2^8=n % 256:=by omega
  rw[this]
  rcases Nat.lt_or_ge (n % 256) 128 with hl|hl
  ·rw[show n % 256=n % 128 by omega];simpa using h
  ·have e3:n % 256=n % 128+128:=by omega
   have h':n % 128+128=n % 128 ||| 128:=by simpa using h.symm
   rw[e3,h',Nat.or_assoc,Nat.or_self]
 rw[e2]
 congr 1
 congr 1
 omega
theorem d3H{n0:Nat}(hn:n0<2^64):L1 Tryz.prog E w0 b8S [.int .u64 (n0:Int)] (bD (d7I n0)):=fun x S=>by
 refine d0B ?_
 unfold c7x
 simp only[b8O]
 rw[if_pos (by decide)]
 refine .inr fun k acs hk=> ?_
 refine c5J (I:=fun m x0 x3 T=>∃(f n:Nat) (acc:List Int),f=m∧x0= .int .u64 (n:Int)∧n<2^(7*f+1)∧n<2^64∧f≤9∧acc.length+f=9∧GrZ S x3 (y9 (acc.map (D.int .u8))) 1 T∧acc++b4Z f n=b4Z 9 n0) ?_ (n:=9)
  ⟨9,n0,[],rfl,rfl,hn,hn,by omega,by simp, .inr ⟨rfl,k,10,true,_,acs,hk,rfl,rfl⟩,rfl⟩
 rintro m0 _ x3 T ⟨f,n,acc,rfl,rfl,hnf,hn64,hf9,hacc,hg,hput⟩
 unfold b2V
 rw[a3H,oD,B3]
 refine⟨fun hge=> ?_,fun hlt=> ?_⟩
 ·have hge:128≤n:=by omega
  obtain⟨f,rfl⟩:∃f',f=f'+1:=⟨f - 1,by
   rcases f with _|f
   ·simp at hnf;omega
   ·rfl⟩
  rw[b4Z,if_neg (by omega)]at hput
  rw[cvI,oD,e2G,oD,show m9 1 (List.replicate 1 [D.int .u8 0]) [(0, .int .u8 ((n % 128+128:Nat):Int))]=some (y9 [D.int .u8 ((n % 128+128:Nat):Int)]) from rfl]
  refine F5 rfl ?_
  refine hg.push (news:=y9 [D.int .u8 ((n % 128+128:Nat):Int)]) rfl (by simp[y9]) (by simp;omega) fun t' T' hg'=> ?_
  rw[c7v _ _ _ _ (by omega),oD]
  have e:((n:Int).fdiv (2^(min (7:Int).toNat IntKind.u64.bits)))=((n / 128:Nat):Int):=by
   rw[show min (7:Int).toNat IntKind.u64.bits=7 from rfl,Int.fdiv_eq_ediv_of_nonneg _ (by decide)]
   omega
  rw[e]
  refine⟨f,by omega,f,n / 128,acc++[((n % 128+128:Nat):Int)],rfl,rfl, ?_,by omega,by omega,by simp;omega, .inl ?_,by rw[←hput];simp⟩
  ·have:2^(7*(f+1)+1)=2^(7*f+1)*128:=by rw[show 7*(f+1)+1=(7*f+1)+7 by omega,Nat.pow_add]
   omega
  ·have:y9 ((acc++[((n % 128+128:Nat):Int)]).map (D.int .u8))=y9 (acc.map (D.int .u8))++y9 [D.int .u8 ((n % 128+128:Nat):Int)]:=by rw[List.map_append,a0h];rfl
   rw[this];exact hg'
 ·have hlt:n<128:=by omega
  have hpn:b4Z f n=[(n:Int)]:=by
   cases f with
   |zero=>rfl
   |succ f=>rw[b4Z,if_pos hlt]
  rw[hpn]at hput
  have hw:IntKind.u8.wrap (n:Int)=n:=by rw[b0y];omega
  rw[cvI,oD,hw,show m9 1 (List.replicate 1 [D.int .u8 0]) [(0, .int .u8 (n:Int))]=some (y9 [D.int .u8 (n:Int)]) from rfl]
  refine F5 rfl ?_
  refine hg.last (news:=y9 [D.int .u8 (n:Int)]) rfl (by simp[y9]) (by simp;omega) ?_
  have:(.lst (y9 (acc.map (D.int .u8))++y9 [D.int .u8 (n:Int)]) 1:D)=bD (d7I n0):=by
   unfold bD d7I
   rw[←hput,List.map_append,a0h];rfl
  rw[this]
  exact i9.pure
theorem d4v{bs:List Int}(hl:bs.length<2^60):L1 Tryz.prog E w0 b9o [bD bs] (.int .u32 (b8c bs)):=fun x S=>by
 refine d0c ?_
 unfold c6U
 rw[I8,oD]
 refine c6F (I:=fun n x3 x6 x7 x8 T=>S=T∧x6=bD bs∧x7= .int .i64 (bs.length:Int)∧∃i:Nat,x8= .int .i64 (i:Int)∧i+n=bs.length∧x3= .int .u32 ((bs.take i).foldl b3c 4294967295)) ?_ (n:=bs.length)
  ⟨rfl,rfl,rfl,0,rfl,by omega,rfl⟩
 rintro n _ _ _ _ _ ⟨rfl,rfl,rfl,i,rfl,hi,rfl⟩
 unfold b3u
 rw[A5,oD,B3]
 refine⟨fun hlt=> ?_,fun hge=> ?_⟩
 ·have hlt:i<bs.length:=by omega
  rw[c4I (List.getElem?_eq_getElem hlt),oD,lsE,List.getElem?_cons_zero,oD,cvI,oD,d8Q,oD]
  refine c5v (I:=fun m x3 x6 x7 x8 x16 T=>S=T∧x6=bD bs∧x7= .int .i64 (bs.length:Int)∧x8= .int .i64 (i:Int)∧∃j:Nat,x16= .int .i64 (j:Int)∧j+m=8∧x3= .int .u32 (Nat.repeat d1S j (d3c ((bs.take i).foldl b3c 4294967295) (IntKind.u32.wrap bs[i])))) ?_ (n:=8)
   ⟨rfl,rfl,rfl,rfl,0,rfl,rfl,rfl⟩
  rintro m _ _ _ _ _ _ ⟨rfl,rfl,rfl,rfl,j,rfl,hj,rfl⟩
  unfold b3v
  rw[A5,oD,B3]
  refine⟨fun hjl=> ?_,fun hjg=> ?_⟩
  ·rw[c7v _ _ _ _ (by decide),oD,d7d,oD,unM,oD,d7d,oD,d8Q,oD,s8,oD,j8 (by omega) (by omega)]
   exact⟨m - 1,by omega,rfl,rfl,rfl,rfl,j+1,rfl,by omega,rfl⟩
  ·have hj8:j=8:=by omega
   subst hj8
   rw[s8,oD,j8 (by omega) (by omega)]
   refine⟨n - 1,by omega,rfl,rfl,rfl,i+1,rfl,by omega, ?_⟩
   rw[List.take_add_one,List.getElem?_eq_getElem hlt,List.foldl_append]
   rfl
 ·have hi:i=bs.length:=by omega
  subst hi
  rw[List.take_length]
  have e:unD .xor (.int .u32 (bs.foldl b3c 4294967295))=some (.int .u32 (b8c bs)):=rfl
  rw[e,oD]
  exact i9.pure
theorem e0d{n:Nat}(hn:n<2^40){x:Bool}{S:b9}:o9 Tryz.prog E w0 x a2X [.nilSlc, .int .i64 (n:Int)] S fun v S'=>GrZ S v [] 1 S':=by
 refine b4P ?_
 unfold a9L
 rw[A5,oD,decide_eq_false (by omega),cdF]
 refine b2a ?_
 unfold a5W
 rw[show d4j .nilSlc=some (.int .i64 0) from rfl,oD,lnN,oD,a4S,oD,j8 (by omega) (by omega),a4S,oD,j8 (by omega) (by omega),a4I,oD,B3]
 refine⟨fun h=> ?_,fun h=>i9.here (.inl (Grw.nil _ _))⟩
 rw[oD,show J1 1 .nilSlc none (some (.int .i64 0)) none=some .nilSlc from rfl,oD]
 have e:((n:Int) - (0 - 0))=(n:Int):=by omega
 rw[e]at h ⊢
 simp only[b5v]
 rw[if_pos ⟨j8 (by omega) (by omega),by omega,by omega⟩]
 simp only[a7T]
 have hr:List.replicate ((n:Int)).toNat [D.int .u8 0]≠[]:=by rw[Int.toNat_natCast];intro h';have:=congrArg List.length h';simp at this;omega
 rw[if_neg hr]
 refine⟨⟨by decide,by simp;omega⟩, .inr fun k acs hk=> ?_⟩
 have:J1 1 (.raw k 0 (List.replicate ((n:Int)).toNat [D.int .u8 0]).length (List.replicate ((n:Int)).toNat [D.int .u8 0]).length false 1) none (some (.int .i64 0)) none=some (.raw k 0 0 (List.replicate ((n:Int)).toNat [D.int .u8 0]).length false 1):=by
  have hb:I1 (.int .i64 0) (List.replicate ((n:Int)).toNat [D.int .u8 0]).length=some 0:=by simp[I1]
  simp only[J1,Q8,d1T,b5N,c6d,if_true,Option.bind_some,hb,Option.map_some]
  rfl
 show b7 (some _) _
 rw[oD,this,oD]
 exact i9.here (.inr ⟨rfl,k,_,_,_,acs,hk,rfl,rfl⟩)
def b6n(l:List (List Int)):D:= .lst (l.map fun b=>[bD b]) 1
theorem d1f{l:List (List Int)}{i:Nat}{b:List Int}(h:l[i]? =some b):p6 1 (b6n l) (.int .i64 (i:Int))=some (.elt [bD b] 0):=b9k (by rw[List.getElem?_map,h];rfl)
theorem c1E{l:List (List Int)}{i:Nat}(hi:i<l.length):(l.take (i+1)).flatten=(l.take i).flatten++l[i]:=by
 rw[List.take_add_one,List.getElem?_eq_getElem hi,List.flatten_append];simp
theorem c6N{l:List (List Int)}(i:Nat):(l.take i).flatten.length≤l.flatten.length:=by
 have:l.flatten=(l.take i).flatten++(l.drop i).flatten:=by rw[←List.flatten_append,List.take_append_drop]
 rw[this,List.length_append];omega
theorem d5l{l:List (List Int)}(hl:l.flatten.length<2^40)(hn:l.length<2^40){x:Bool}{S:b9}:o9 Tryz.prog E w0 x N9 [b6n l] S fun v T=>GrZ S v (y9 (l.flatten.map (D.int .u8))) 1 T:=by
 refine b2x ?_
 unfold a6b
 have hlen:l9 (b6n l)=some (.int .i64 (l.length:Int)):=by simp[b6n]
 rw[hlen,oD]
 refine b0b (I:=fun n x0 x3 x9 x10 x11 T=>S=T∧x0=b6n l∧x9=b6n l∧x10= .int .i64 (l.length:Int)∧∃i:Nat,x11= .int .i64 (i:Int)∧i+n=l.length∧x3= .int .i64 ((l.take i).flatten.length:Int)) ?_ (n:=l.length)
  ⟨rfl,rfl,rfl,rfl,0,rfl,by omega,rfl⟩
 rintro n _ _ _ _ _ _ ⟨rfl,rfl,rfl,rfl,i,rfl,hi,rfl⟩
 unfold a0p
 rw[A5,oD,B3]
 have hfl:=c6N (l:=l) i
 refine⟨fun hlt=> ?_,fun hge=> ?_⟩
 ·have hlt:i<l.length:=by omega
  have h1:=c6N (l:=l) (i+1)
  rw[c1E hlt,List.length_append]at h1
  rw[d1f (List.getElem?_eq_getElem hlt),oD,lsE,List.getElem?_cons_zero,oD,I8,oD,s8,oD,j8 (by omega) (by omega),A5,oD,decide_eq_false (by omega),cdF,s8,oD,j8 (by omega) (by omega)]
  exact⟨n - 1,by omega,rfl,rfl,rfl,rfl,i+1,rfl,by omega,by rw[c1E hlt,List.length_append];rfl⟩
 ·refine(e0d (by omega)).use fun v T hg=> ?_
  rw[hlen,oD]
  refine b0f (I:=fun n x6 x25 x26 x27 T=>x25=b6n l∧x26= .int .i64 (l.length:Int)∧∃i:Nat,x27= .int .i64 (i:Int)∧i+n=l.length∧GrZ S x6 (y9 ((l.take i).flatten.map (D.int .u8))) 1 T) ?_ (n:=l.length)
   ⟨rfl,rfl,0,rfl,by omega,hg⟩
  rintro n x6 _ _ _ T ⟨rfl,rfl,i,rfl,hi,hg⟩
  unfold a0x
  rw[A5,oD,B3]
  have hfl:=c6N (l:=l) i
  refine⟨fun hlt=> ?_,fun hge=> ?_⟩
  ·have hlt:i<l.length:=by omega
   have h1:=c6N (l:=l) (i+1)
   rw[c1E hlt,List.length_append]at h1
   rw[d1f (List.getElem?_eq_getElem hlt),oD,lsE,List.getElem?_cons_zero,oD]
   have hnext:y9 ((l.take (i+1)).flatten.map (D.int .u8))=y9 ((l.take i).flatten.map (D.int .u8))++y9 (l[i].map (D.int .u8)):=by rw[c1E hlt,List.map_append,a0h]
   by_cases he:l[i]=[]
   ·rw[he,List.map_nil]at hnext
    have hskip:∀K:D→b9→Prop,K x6 T→r6 T 1 1 x6 (bD l[i]) K:=fun K hK=>by
     rw[he]
     simp only[r6,a7h]
     rcases hg with (⟨rfl,_,rfl⟩|⟨k,acs,_,rfl,rfl⟩)|⟨_,k,cap,ex,zr,acs,_,rfl,rfl⟩<;>exact hK
    refine hskip _ ?_
    rw[s8,oD,j8 (by omega) (by omega)]
    exact⟨n - 1,by omega,rfl,rfl,i+1,rfl,by omega,by rw[hnext];simpa [y9]using hg⟩
   ·refine hg.push (a7h _ _) (by simpa [y9]using he) (by simp only[W0,List.length_map];omega) fun t' T' hg'=> ?_
    rw[s8,oD,j8 (by omega) (by omega)]
    exact⟨n - 1,by omega,rfl,rfl,i+1,rfl,by omega, .inl (by rw[hnext];exact hg')⟩
  ·have hi:i=l.length:=by omega
   subst hi
   rw[List.take_length]at hg
   exact i9.here hg
end
end
section
def bytesOf(s:Tx):List Int:=s.map fun b=>(b.toNat:Int)
def K3(s:Tx):List Int:=A7 s.length++bytesOf s
def b8N(l:List Int):List Int:=A7 l.length++l.flatMap A7
def a6W(f:Tx×Int):List Int:=K3 f.1++A7 f.2
def tyB(t:Ty):List Int:=t.kind::if t.kind=6 then K3 t.name++(A7 t.fields.length++t.fields.flatMap a6W) else A7 t.elem++if t.kind=7 then A7 t.len else[]
def roB(r:Ro):List Int:=K3 r.name++(b8N r.params++(b8N r.results++(A7 r.locals++(A7 r.stack++K3 (b8e r.code)))))
def D2(m:Mo):List Int:=A7 m.types.length++(m.types.flatMap tyB++(A7 m.texts.length++(m.texts.flatMap K3++(A7 m.funcs.length++m.funcs.flatMap roB))))
def WOk(L I:List Int):Prop:=(I.length≤2097153∧L=I)∨(2097153<I.length∧L.length=2097153)
theorem WOk.len{L I:List Int}(h:WOk L I):L.length≤2097153:=by
 rcases h with ⟨h,rfl⟩|⟨_,h⟩<;>omega
theorem K6{α:Type}{f:α→List Int}{l:List α}{i:Nat}{a:α}(h:l[i]? =some a):(l.take (i+1)).flatMap f=(l.take i).flatMap f++f a:=by
 rw[List.take_add_one,h,List.flatMap_append];simp
def WAt(S:b9)(kw:Nat)(av:List Nat)(I:List Int)(T:b9):Prop:=S.le T∧S kw=none∧kw ∉ av∧(∀j∈av,T j≠none)∧∃(L:List Int) (t:D),WOk L I∧w9 T kw 1 [t]∧GrA S (kw::av) t (y9 (L.map (D.int .u8))) 1 T
section
variable{E:j6}{w0:World}{S T:b9}{kw:Nat}{av:List Nat}{I:List Int}
theorem WAt.more(h:WAt S kw av I T){l:Nat}{o:K8}(hl:T l=none):WAt S kw (l::av) I (T.set l o):=by
 obtain⟨h1,h2,h3,h4,L,t,h5,h6,h7⟩:=h
 have ne:kw≠l:=h6.none hl
 have nt:∀j∈ob t,j≠l:=fun j hj e=>h7.ob_some j hj (by rw[e];exact hl)
 refine⟨b9.le_set h1 (b9.none_of h1 hl),h2,fun hm=> ?_,fun j hj=> ?_,L,t,h5,h6.set hl,h7.apart (fun j hj=>b9.set_ne _ _ _ (nt j hj)) fun j hj hm=> ?_⟩
 ·rcases List.mem_cons.1 hm with e|hm
  ·exact ne e
  ·exact h3 hm
 ·rcases List.mem_cons.1 hj with rfl|hj
  ·rw[b9.set_same];simp
  ·rw[b9.set_ne _ _ _ fun e=>h4 j hj (by rw[e];exact hl)];exact h4 j hj
 ·have:=h7.ob_av j hj
  rcases List.mem_cons.1 hm with e|hm
  ·exact this (by simp[e])
  ·rcases List.mem_cons.1 hm with e|hm
   ·exact nt j hj e
   ·exact this (by simp[hm])
theorem WAt.upd(h:WAt S kw av I T){l:Nat}{o:K8}(hl:l∈av)(hS:S l=none):WAt S kw av I (T.set l o):=by
 obtain⟨h1,h2,h3,h4,L,t,h5,h6,h7⟩:=h
 have ne:kw≠l:=fun e=>h3 (by rw[e];exact hl)
 refine⟨b9.le_set h1 hS,h2,h3,fun j hj=> ?_,L,t,h5,h6.set_ne ne,h7.set (.inl (by simp[hl]))⟩
 by_cases e:j=l
 ·subst e;rw[b9.set_same];simp
 ·rw[b9.set_ne _ _ _ e];exact h4 j hj
theorem WAt.less(h:WAt S kw av I T){av':List Nat}(ha:∀j∈av',j∈av):WAt S kw av' I T:=by
 obtain⟨h1,h2,h3,h4,L,t,h5,h6,h7⟩:=h
 refine⟨h1,h2,fun hm=>h3 (ha _ hm),fun j hj=>h4 j (ha j hj),L,t,h5,h6,h7.apart (fun _ _=>rfl) fun j hj hm=> ?_⟩
 have:=h7.ob_av j hj
 rcases List.mem_cons.1 hm with e|hm
 ·exact this (by simp[e])
 ·exact this (by simp[ha j hm])
theorem d5X{x:Bool}(h:WAt S kw av I T){b:List Int}(hb:b.length<2^40):o9 Tryz.prog E w0 x M6 [.ptr kw 0,bD b] T fun _ T'=>WAt S kw av (I++b) T'∧∀j∈av,T' j=T j:=by
 obtain⟨h1,h2,h3,h4,L,t,h5,h6,h7⟩:=h
 have hL:=h5.len
 refine b5a ?_
 unfold a8L
 have ld:b8 T (.ptr kw 0)=some t:=h6.ld 0
 have hlen:l9 t=some (.int .i64 (L.length:Int)):=by rw[h7.len];simp
 have go:∀ {v:D} {b':List Int} {T':b9},T'=T→rowsS T 1 v=some (y9 (b'.map (D.int .u8)))→WOk (L++b') (I++b)→(L++b').length≤2097153→W6 E w0 x (i9 E fun _ T'=>WAt S kw av (I++b) T'∧∀j∈av,T' j=T j) (.ptr kw 0) v T':=fun{v b' T'} hT hv hw hwl=>by
  subst hT
  rw[List.length_append]at hwl
  refine b2w ?_
  unfold a6c
  simp only[ndP,u5,oD,Nat.zero_add,ld]
  by_cases hn:b'=[]
  ·have hskip:∀K:D→b9→Prop,K t T'→r6 T' 1 1 t v K:=fun K hK=>by
    simp only[r6,hv,hn,List.map_nil]
    rcases h7 with ⟨rfl,_⟩|⟨k,acs,_,_,rfl,_⟩<;>exact hK
   refine hskip _ ?_
   refine h6.st h7.cells ⟨rfl,by decide,by simp⟩ fun a=>i9.here ⟨⟨b9.le_set h1 h2,h2,h3,fun j hj=> ?_,L++b',t,hw,w9.new, ?_⟩,fun j hj=>b9.set_ne _ _ _ fun e=>h3 (by rw[←e];exact hj)⟩
   ·rw[b9.set_ne _ _ _ fun e=>h3 (by rw[←e];exact hj)];exact h4 j hj
   ·rw[hn,List.append_nil];exact h7.set (.inl (by simp))
  ·refine h7.push h1 (fun j hj=> ?_) hv (by simpa [y9]using hn) (by simp only[W0,List.length_map];omega) fun t' T2 hle he hg=> ?_
   ·rcases List.mem_cons.1 hj with rfl|hj
    ·exact h6.there
    ·exact h4 j hj
   refine(h6.of (he kw (by simp))).st hg.cells ⟨rfl,by decide,by simp⟩ fun a=>i9.here ⟨⟨b9.le_set hle h2,h2,h3,fun j hj=> ?_,L++b',t',hw,w9.new, ?_⟩,fun j hj=> ?_⟩
   ·rw[b9.set_ne _ _ _ fun e=>h3 (by rw[←e];exact hj),he j (by simp[hj])];exact h4 j hj
   ·rw[List.map_append,a0h];exact hg.set (.inl (by simp))
   ·rw[b9.set_ne _ _ _ fun e=>h3 (by rw[←e];exact hj),he j (by simp[hj])]
 simp only[I8,ndP,u5,oD,Nat.zero_add,ld,hlen,a4S]
 rw[j8 (by omega) (by omega),a4I,oD,B3]
 refine⟨fun hgt=> ?_,fun hle=> ?_⟩
 ·have hgt:2097153<L.length+b.length:=by omega
  simp only[b8O]
  rw[if_pos ⟨by omega,Int.le_refl _,by omega,by omega⟩]
  obtain⟨z,hz⟩:∃z:Nat,(2097153:Int) - (L.length:Int)=(z:Int):=⟨2097153 - L.length,by omega⟩
  rw[hz,Int.toNat_natCast]
  refine .inl ?_
  have hrep:(List.replicate z [D.int .u8 0]).take z=y9 ((List.replicate z (0:Int)).map (D.int .u8)):=by
   rw[List.take_of_length_le (by simp)];simp[y9]
  rw[hrep]
  refine go (b':=List.replicate z 0) rfl (by simp[rowsS,L2]) (.inr ⟨?_, ?_⟩) (by simp;omega)
  ·rw[List.length_append]
   rcases h5 with ⟨_,rfl⟩|⟨h,_⟩<;>omega
  ·simp;omega
 ·have hle:L.length+b.length≤2097153:=by omega
  refine go rfl (a7h _ _) ?_ (by rw[List.length_append];omega)
  rcases h5 with ⟨_,rfl⟩|⟨h,hl⟩
  ·exact .inl ⟨by rw[List.length_append];omega,rfl⟩
  ·have hb0:b=[]:=List.length_eq_zero_iff.1 (by omega)
   subst hb0
   rw[List.append_nil,List.append_nil]
   exact .inr ⟨h,hl⟩
theorem d4r:∀f n,(b4Z f n).length≤f+1
 |0,n=>by simp[b4Z]
 |f+1,n=>by
  rw[b4Z]
  split
  ·simp
  ·have:=d4r f (n / 128)
   simp;omega
theorem u6(n:Int):(A7 n).length≤10:=d4r _ _
theorem V7{x:Bool}(h:WAt S kw av I T){n:Int}:o9 Tryz.prog E w0 x s6 [.ptr kw 0, .int .i64 n] T fun _ T'=>WAt S kw av (I++A7 n) T'∧∀j∈av,T' j=T j:=by
 refine b0Y ?_
 unfold a4M
 rw[cvI,oD,c1c]
 refine(d3H (by omega)).use ?_
 have:=u6 n
 exact(d5X h (b:=A7 n) (by omega)).use fun v T' hq=>i9.here hq
theorem b6W{x:Bool}(h:WAt S kw av I T){s:Tx}(hs:s.length≤65536):o9 Tryz.prog E w0 x H5 [.ptr kw 0, .str s] T fun _ T'=>WAt S kw av (I++K3 s) T'∧∀j∈av,T' j=T j:=by
 refine b3V ?_
 unfold a6R
 rw[lnS,oD]
 refine(V7 h).use ?_
 rintro v T1 ⟨h1,e1⟩
 rw[oD,a4I,oD,decide_eq_false (by omega),cdF]
 refine b1g ?_
 unfold a4Q
 simp only[c8Y]
 rw[if_pos (by omega)]
 refine .inl ?_
 have e:(D.lst ((s.map fun b=>[D.int .u8 (b.toNat:Int)]).take s.length) 1)=bD (bytesOf s):=by
  rw[List.take_of_length_le (by simp)]
  simp[bD,bytesOf,y9,Function.comp_def]
 rw[e]
 refine(d5X h1 (b:=bytesOf s) (by simp[bytesOf];omega)).use ?_
 rintro v T2 ⟨h2,e2⟩
 refine i9.here ⟨?_,fun j hj=>by rw[e2 j hj,e1 j hj]⟩
 unfold K3
 rw[←List.append_assoc];exact h2
theorem c8r{x:Bool}(h:WAt S kw av I T){l:List Int}(hl:l.length<2^40):o9 Tryz.prog E w0 x Q7 [.ptr kw 0,iD l] T fun _ T'=>WAt S kw av (I++b8N l) T'∧∀j∈av,T' j=T j:=by
 refine a9Z ?_
 unfold a4m
 rw[M5,oD]
 refine(V7 h).use ?_
 rintro v T1 ⟨h1,e1⟩
 rw[oD]
 refine a7y (I:=fun n x0 x10 x11 x12 T2=>x0= .ptr kw 0∧x10=iD l∧x11= .int .i64 (l.length:Int)∧∃i:Nat,x12= .int .i64 (i:Int)∧i+n=l.length∧WAt S kw av (I++A7 l.length++(l.take i).flatMap A7) T2∧∀j∈av,T2 j=T j) ?_ (n:=l.length)
  ⟨rfl,rfl,rfl,0,rfl,by omega,by simpa using h1,e1⟩
 rintro n _ _ _ _ T2 ⟨rfl,rfl,rfl,i,rfl,hi,h2,e2⟩
 unfold Y0
 rw[A5,oD,B3]
 refine⟨fun hlt=> ?_,fun hge=> ?_⟩
 ·have hlt:i<l.length:=by omega
  have ei:l[i]? =some l[i]:=List.getElem?_eq_getElem hlt
  rw[c0L ei,oD,lsE,List.getElem?_cons_zero,oD]
  refine(V7 h2).use ?_
  rintro v T3 ⟨h3,e3⟩
  rw[s8,oD,j8 (by omega) (by omega)]
  exact⟨n - 1,by omega,rfl,rfl,rfl,i+1,rfl,by omega,by rw[K6 ei, ←List.append_assoc];exact h3,fun j hj=>by rw[e3 j hj,e2 j hj]⟩
 ·rw[List.take_of_length_le (by omega),List.append_assoc]at h2
  exact i9.here ⟨h2,e2⟩
structure Mo.Brief (m:Mo):Prop where
 ty:∀t∈m.types,t.name.length≤65536∧t.fields.length≤32∧∀f∈t.fields,f.1.length≤65536
 tx:∀t∈m.texts,t.length≤65536
 ro:∀r∈m.funcs,r.name.length≤65536∧r.params.length≤32∧r.results.length≤8∧r.code.length≤65536
theorem c9P{m:Mo}(hm:m.Fits)(hb:m.Brief){x:Bool}{S:b9}:o9 Tryz.prog E w0 x b3M [Z0 m] S fun d S'=>S'=S∧∃L,WOk L (D2 m)∧d=bD L:=by
 refine c5O ?_
 unfold c0t
 rw[Z0,J5,oD]
 intro k a n
 have c0:w9 (S.set k ⟨3,[F8 m],a⟩) k 3 (F8 m):=w9.new
 have le0:S.le (S.set k ⟨3,[F8 m],a⟩):=b9.le_new n
 rw[show(F8 m).length=3 from rfl]
 intro kw aw nw
 have hw0:WAt S kw [k] [] ((S.set k ⟨3,[F8 m],a⟩).set kw ⟨1,[[.nilSlc]],aw⟩):=by
  obtain⟨ne,nw'⟩:=b9.fresh nw
  exact⟨b9.le_set le0 nw',nw',by simpa using ne,fun j hj=>by simp only[List.mem_singleton]at hj;subst hj;exact(c0.set nw).there,[], .nilSlc, .inl ⟨by simp,rfl⟩,w9.new,GrA.nil⟩
 have c1:=c0.set (o:=⟨1,[[.nilSlc]],aw⟩) nw
 change b7 _ _
 rw[show([D.nilSlc]:List D).length=1 from rfl]
 generalize (S.set k ⟨3,[F8 m],a⟩).set kw ⟨1,[[.nilSlc]],aw⟩=T0 at*
 have q0:(F8 m)[0]? =some (b1E m.types):=rfl
 have q1:(F8 m)[1]? =some (a6A m.texts):=rfl
 have q2:(F8 m)[2]? =some (b1r m.funcs):=rfl
 have t0:=hm.types
 have t1:=hm.texts
 have t2:=hm.funcs
 simp only[u5,oD,Nat.zero_add,c1.ld,q0,G6]
 refine(V7 hw0).use ?_
 rintro v T1 ⟨h1,e1⟩
 have c1:=c1.of (e1 k (by simp))
 rw[c1.ld,q0,oD,G6,oD]
 refine c0w (I:=fun n x1 x3 x19 x20 x21 T=>x1= .ptr k 0∧x3= .ptr kw 0∧x19=b1E m.types∧x20= .int .i64 (m.types.length:Int)∧∃i:Nat,x21= .int .i64 (i:Int)∧i+n=m.types.length∧WAt S kw [k] (A7 m.types.length++(m.types.take i).flatMap tyB) T∧w9 T k 3 (F8 m)) ?_ (n:=m.types.length)
  ⟨rfl,rfl,rfl,rfl,0,rfl,by omega,by simpa using h1,c1⟩
 rintro n _ _ _ _ _ T ⟨rfl,rfl,rfl,rfl,i,rfl,hi,hw,cm⟩
 unfold a8K
 rw[A5,oD,B3]
 refine⟨fun hlt=> ?_,fun hge=> ?_⟩
 ·have hlt:i<m.types.length:=by omega
  obtain⟨t,ht⟩:∃t,t=m.types[i]:=⟨_,rfl⟩
  have et:m.types[i]? =some t:=by rw[List.getElem?_eq_getElem hlt,ht]
  have htm:t∈m.types:=by rw[ht];exact List.getElem_mem _
  obtain⟨b1,b2,b3⟩:=hb.ty t htm
  rw[a0l et,oD,d0l,oD]
  intro k2 a2 n2
  refine(w9.new (sz:=5) (c:=[(.int .u8 0),(.str []), .nilSlc,(.int .i64 0),(.int .i64 0)])).st (ds:=B9 t) (J5 _) ⟨rfl,by decide,by decide⟩ fun a2=> ?_
  rw[b9.set_set,show o0 [(D.int .u8 0),(.str []), .nilSlc,(.int .i64 0),(.int .i64 0)] 0 (B9 t)=B9 t from rfl]
  have c5:w9 (T.set k2 ⟨5,[B9 t],a2⟩) k2 5 (B9 t):=w9.new
  have hw2:=hw.more (o:=⟨5,[B9 t],a2⟩) n2
  have cm2:=cm.set (o:=⟨5,[B9 t],a2⟩) n2
  generalize T.set k2 ⟨5,[B9 t],a2⟩=T2 at*
  have p0:(B9 t)[0]? =some (.int .u8 t.kind):=rfl
  have p1:(B9 t)[1]? =some (.str t.name):=rfl
  have p2:(B9 t)[2]? =some (O9 t.fields):=rfl
  have p3:(B9 t)[3]? =some (.int .i64 t.elem):=rfl
  have p4:(B9 t)[4]? =some (.int .i64 t.len):=rfl
  rw[u5,oD,Nat.zero_add,c5.ld,p0,oD,show m9 1 (List.replicate 1 [D.int .u8 0]) [(0, .int .u8 t.kind)]=some (y9 ([t.kind].map (D.int .u8))) from rfl]
  refine F5 rfl ?_
  refine(show o9 Tryz.prog E w0 x M6 [.ptr kw 0,bD [t.kind]] T2 _ from(d5X hw2 (b:=[t.kind]) (by simp)).use ?_)
  rintro v T3 ⟨h3,e3⟩
  have c5:=c5.of (e3 k2 (by simp))
  have cm3:=cm2.of (e3 k (by simp))
  have next:∀ {T4:b9} {rest:List Int},tyB t=t.kind::rest→WAt S kw [k2,k] (A7 m.types.length++(m.types.take i).flatMap tyB++[t.kind]++rest) T4→w9 T4 k 3 (F8 m)→
    (fun(x1 x3 x19 x20 x21:D) (T:b9)=>∃m_1,m_1<n∧x1=D.ptr k 0∧x3=D.ptr kw 0∧x19=b1E m.types∧x20= .int .i64 (m.types.length:Int)∧∃i:Nat,x21= .int .i64 (i:Int)∧i+m_1=m.types.length∧WAt S kw [k] (A7 m.types.length++(m.types.take i).flatMap tyB) T∧w9 T k 3 (F8 m))
     (D.ptr k 0) (D.ptr kw 0) (b1E m.types) (D.int .i64 (m.types.length:Int)) (D.int .i64 ((i:Int)+1)) T4:=fun{T4 rest} he hw4 cm4=>by
   refine⟨n - 1,by omega,rfl,rfl,rfl,rfl,i+1,rfl,by omega, ?_,cm4⟩
   rw[K6 et,he]
   have:=hw4.less (av':=[k]) (by simp)
   simpa using this
  rw[u5,oD,Nat.zero_add,c5.ld,p0,oD,a0i,oD,B3]
  refine⟨fun k6=> ?_,fun k6=> ?_⟩
  ·rw[u5,oD,c5.ld,p1,oD]
   refine(b6W h3 b1).use ?_
   rintro v T4 ⟨h4,e4⟩
   have c5:=c5.of (e4 k2 (by simp))
   have cm4:=cm3.of (e4 k (by simp))
   simp only[u5,oD,Nat.zero_add,c5.ld,p2,B0]
   refine(V7 h4).use ?_
   rintro v T5 ⟨h5,e5⟩
   have c5:=c5.of (e5 k2 (by simp))
   have cm5:=cm4.of (e5 k (by simp))
   simp only[u5,oD,Nat.zero_add,c5.ld,p2,B0]
   refine c2j (I:=fun c x1 x3 x19 x20 x21 x43 x44 x45 T=>x1= .ptr k 0∧x3= .ptr kw 0∧x19=b1E m.types∧x20= .int .i64 (m.types.length:Int)∧x21= .int .i64 (i:Int)∧x43=O9 t.fields∧x44= .int .i64 (t.fields.length:Int)∧∃j:Nat,x45= .int .i64 (j:Int)∧j+c=t.fields.length∧
     WAt S kw [k2,k] (A7 m.types.length++(m.types.take i).flatMap tyB++[t.kind]++(K3 t.name++(A7 t.fields.length++(t.fields.take j).flatMap a6W))) T∧w9 T k 3 (F8 m)) ?_ (n:=t.fields.length)
    ⟨rfl,rfl,rfl,rfl,rfl,rfl,rfl,0,rfl,by omega,by simpa using h5,cm5⟩
   rintro c _ _ _ _ _ _ _ _ T6 ⟨rfl,rfl,rfl,rfl,rfl,rfl,rfl,j,rfl,hj,hw6,cm6⟩
   unfold a9e
   rw[A5,oD,B3]
   refine⟨fun hjl=> ?_,fun hjg=> ?_⟩
   ·have hjl:j<t.fields.length:=by omega
    obtain⟨f,hf⟩:∃f,f=t.fields[j]:=⟨_,rfl⟩
    have ef:t.fields[j]? =some f:=by rw[List.getElem?_eq_getElem hjl,hf]
    have hfm:f∈t.fields:=by rw[hf];exact List.getElem_mem _
    rw[V2 ef,oD,d6V,oD]
    intro k3 a3 n3
    refine(w9.new (sz:=2) (c:=[(.str []),(.int .i64 0)])).st (ds:=O1 f) (J5 _) ⟨rfl,by decide,by decide⟩ fun a3=> ?_
    rw[b9.set_set,show o0 [(D.str []),(.int .i64 0)] 0 (O1 f)=O1 f from rfl]
    have c7:w9 (T6.set k3 ⟨2,[O1 f],a3⟩) k3 2 (O1 f):=w9.new
    have hw7:=hw6.more (o:=⟨2,[O1 f],a3⟩) n3
    have cm7:=cm6.set (o:=⟨2,[O1 f],a3⟩) n3
    generalize T6.set k3 ⟨2,[O1 f],a3⟩=T7 at*
    rw[u5,oD,Nat.zero_add,c7.ld,show(O1 f)[0]? =some (.str f.1) from rfl,oD]
    refine(b6W hw7 (b3 f hfm)).use ?_
    rintro v T8 ⟨h8,e8⟩
    have c7:=c7.of (e8 k3 (by simp))
    have cm8:=cm7.of (e8 k (by simp))
    rw[u5,oD,c7.ld,show(O1 f)[0+1]? =some (.int .i64 f.2) from rfl,oD]
    refine(V7 h8).use ?_
    rintro v T9 ⟨h9,e9⟩
    have cm9:=cm8.of (e9 k (by simp))
    rw[s8,oD,j8 (by omega) (by omega)]
    refine⟨c - 1,by omega,rfl,rfl,rfl,rfl,rfl,rfl,rfl,j+1,rfl,by omega, ?_,cm9⟩
    rw[K6 ef]
    have:=h9.less (av':=[k2,k]) (by simp)
    simpa [a6W]using this
   ·rw[List.take_of_length_le (l:=t.fields) (by omega)]at hw6
    rw[s8,oD,j8 (by omega) (by omega)]
    exact next (by unfold tyB;rw[if_pos k6]) hw6 cm6
  ·rw[u5,oD,c5.ld,p3,oD]
   refine(V7 h3).use ?_
   rintro v T4 ⟨h4,e4⟩
   have c5:=c5.of (e4 k2 (by simp))
   have cm4:=cm3.of (e4 k (by simp))
   rw[u5,oD,Nat.zero_add,c5.ld,p0,oD,a0i,oD,B3]
   refine⟨fun k7=> ?_,fun k7=> ?_⟩
   ·simp only[u5,oD,Nat.zero_add,c5.ld,p4]
    refine(V7 h4).use ?_
    rintro v T5 ⟨h5,e5⟩
    have cm5:=cm4.of (e5 k (by simp))
    rw[s8,oD,j8 (by omega) (by omega)]
    obtain⟨m1,g1,_,_,_,_,i1,g2⟩:=next (rest:=A7 t.elem++A7 t.len) (by unfold tyB;rw[if_neg k6,if_pos k7]) (by rw[←List.append_assoc];exact h5) cm5
    exact⟨m1,g1,trivial,trivial,trivial,trivial,i1,g2⟩
   ·rw[s8,oD,j8 (by omega) (by omega)]
    exact next (rest:=A7 t.elem) (by unfold tyB;rw[if_neg k6,if_neg k7,List.append_nil]) h4 cm4
 have hi:i=m.types.length:=by omega
 subst hi
 rw[List.take_length]at hw
 rw[u5,oD,cm.ld,q1,oD,J9,oD]
 refine(V7 hw).use ?_
 rintro v T2 ⟨h2,e2⟩
 have cm2:=cm.of (e2 k (by simp))
 simp only[u5,oD,Nat.zero_add,cm2.ld,q1,J9]
 refine c1k (I:=fun n x1 x3 x76 x77 x78 T=>x1= .ptr k 0∧x3= .ptr kw 0∧x76=a6A m.texts∧x77= .int .i64 (m.texts.length:Int)∧∃i:Nat,x78= .int .i64 (i:Int)∧i+n=m.texts.length∧WAt S kw [k] (A7 m.types.length++(m.types.flatMap tyB++(A7 m.texts.length++(m.texts.take i).flatMap K3))) T∧w9 T k 3 (F8 m)) ?_ (n:=m.texts.length)
  ⟨rfl,rfl,rfl,rfl,0,rfl,by omega,by simpa using h2,cm2⟩
 rintro n _ _ _ _ _ T ⟨rfl,rfl,rfl,rfl,i,rfl,hi,hw,cm⟩
 unfold a8y
 rw[A5,oD,B3]
 refine⟨fun hlt=> ?_,fun hge=> ?_⟩
 ·have hlt:i<m.texts.length:=by omega
  have et:m.texts[i]? =some m.texts[i]:=List.getElem?_eq_getElem hlt
  rw[a7t et,oD,lsE,List.getElem?_cons_zero,oD]
  refine(b6W hw (hb.tx _ (List.getElem_mem _))).use ?_
  rintro v T3 ⟨h3,e3⟩
  have cm3:=cm.of (e3 k (by simp))
  rw[s8,oD,j8 (by omega) (by omega)]
  exact⟨n - 1,by omega,rfl,rfl,rfl,rfl,i+1,rfl,by omega,by rw[K6 et];simpa using h3,cm3⟩
 have hi:i=m.texts.length:=by omega
 subst hi
 rw[List.take_length]at hw
 rw[u5,oD,cm.ld,q2,oD,I9,oD]
 refine(V7 hw).use ?_
 rintro v T2 ⟨h2,e2⟩
 have cm2:=cm.of (e2 k (by simp))
 simp only[u5,oD,Nat.zero_add,cm2.ld,q2,I9]
 refine c1N (I:=fun n x3 x92 x93 x94 T=>x3= .ptr kw 0∧x92=b1r m.funcs∧x93= .int .i64 (m.funcs.length:Int)∧∃i:Nat,x94= .int .i64 (i:Int)∧i+n=m.funcs.length∧WAt S kw [] (A7 m.types.length++(m.types.flatMap tyB++(A7 m.texts.length++(m.texts.flatMap K3++(A7 m.funcs.length++(m.funcs.take i).flatMap roB))))) T) ?_ (n:=m.funcs.length)
  ⟨rfl,rfl,rfl,0,rfl,by omega,by simpa using h2.less (av':=[]) (by simp)⟩
 rintro n _ _ _ _ T ⟨rfl,rfl,rfl,i,rfl,hi,hw⟩
 unfold a7V
 rw[A5,oD,B3]
 refine⟨fun hlt=> ?_,fun hge=> ?_⟩
 ·have hlt:i<m.funcs.length:=by omega
  obtain⟨t,ht⟩:∃t,t=m.funcs[i]:=⟨_,rfl⟩
  have et:m.funcs[i]? =some t:=by rw[List.getElem?_eq_getElem hlt,ht]
  have htm:t∈m.funcs:=by rw[ht];exact List.getElem_mem _
  obtain⟨b1,b2,b3,b4⟩:=hb.ro t htm
  rw[a1k et,oD,d0n,oD]
  intro k2 a2 n2
  refine(w9.new (sz:=6) (c:=[(.str []), .nilSlc, .nilSlc,(.int .i64 0),(.int .i64 0), .nilSlc])).st (ds:=F9 t) (J5 _) ⟨rfl,by decide,by decide⟩ fun a2=> ?_
  rw[b9.set_set,show o0 [(D.str []), .nilSlc, .nilSlc,(.int .i64 0),(.int .i64 0), .nilSlc] 0 (F9 t)=F9 t from rfl]
  have c6:w9 (T.set k2 ⟨6,[F9 t],a2⟩) k2 6 (F9 t):=w9.new
  have hw2:=hw.more (o:=⟨6,[F9 t],a2⟩) n2
  generalize T.set k2 ⟨6,[F9 t],a2⟩=T2 at*
  rw[u5,oD,Nat.zero_add,c6.ld,show(F9 t)[0]? =some (.str t.name) from rfl,oD]
  refine(b6W hw2 b1).use ?_
  rintro v T3 ⟨h3,e3⟩
  have c6:=c6.of (e3 k2 (by simp))
  rw[u5,oD,c6.ld,show(F9 t)[0+1]? =some (iD t.params) from rfl,oD]
  refine(c8r h3 (by omega)).use ?_
  rintro v T4 ⟨h4,e4⟩
  have c6:=c6.of (e4 k2 (by simp))
  rw[u5,oD,c6.ld,show(F9 t)[0+2]? =some (iD t.results) from rfl,oD]
  refine(c8r h4 (by omega)).use ?_
  rintro v T5 ⟨h5,e5⟩
  have c6:=c6.of (e5 k2 (by simp))
  rw[u5,oD,c6.ld,show(F9 t)[0+3]? =some (.int .i64 t.locals) from rfl,oD]
  refine(V7 h5).use ?_
  rintro v T6 ⟨h6,e6⟩
  have c6:=c6.of (e6 k2 (by simp))
  rw[u5,oD,c6.ld,show(F9 t)[0+4]? =some (.int .i64 t.stack) from rfl,oD]
  refine(V7 h6).use ?_
  rintro v T7 ⟨h7,e7⟩
  have c6:=c6.of (e7 k2 (by simp))
  rw[u5,oD,c6.ld,show(F9 t)[0+5]? =some (bD t.code) from rfl,oD,c4N,oD]
  refine(b6W h7 (by simpa [b8e]using b4)).use ?_
  rintro v T8 ⟨h8,e8⟩
  rw[s8,oD,j8 (by omega) (by omega)]
  refine⟨n - 1,by omega,rfl,rfl,rfl,i+1,rfl,by omega, ?_⟩
  rw[K6 et]
  have:=h8.less (av':=[]) (by simp)
  simpa [roB]using this
 ·have hi:i=m.funcs.length:=by omega
  subst hi
  rw[List.take_length]at hw
  obtain⟨h1,_,_,_,L,t,h5,h6,h7⟩:=hw
  rw[ndP,oD,u5,oD,h6.ld,show[t][0+0]? =some t from rfl,oD]
  rcases h7 with ⟨rfl,e⟩|⟨kL,acs,z0,z1,rfl,z3⟩
  ·have hL:L=[]:=by simpa [y9]using e
   subst hL
   exact i9.nil (sz:=1) (i9.less h1 (i9.here ⟨rfl,[],h5,rfl⟩))
  ·refine i9.freeze z3 rfl (by simp) (Nat.le_refl _) (i9.less (b9.le_erase h1 z0) (i9.here ⟨rfl,L,h5, ?_⟩))
   rw[List.drop_zero,List.take_length];rfl
end
end
section
def J0(m:Mo):List Int×Int:=
 if F4 m≠0 then([],F4 m) else if 2097140<(D2 m).length then([],3)
 else([84,82,77,1]++(F6 (D2 m).length 4++(D2 m++F6 (b8c (D2 m)) 4)),0)
theorem b5I{α:Type}{f:α→Int}:∀ {l:List α},H4 f l=0→∀a∈l,f a=0
 | [],_,a,h=>by cases h
 |b::l,h,a,ha=>by
  rw[H4]at h
  split at h
  ·rename_i hb
   rcases List.mem_cons.1 ha with rfl|ha
   ·exact hb
   ·exact b5I h a ha
  ·rename_i hb;exact(hb h).elim
theorem d2E{m:Mo}(h:F4 m=0):(m.types.length≤256∧m.texts.length≤32768∧m.funcs.length≤256)∧(∀t∈m.types,a2K t=false∧K7 m t=true)∧(∀t∈m.texts,t.length≤65536)∧(∀r∈m.funcs,O8 r=false∧Q6 m r=true):=by
 unfold F4 at h
 split at h
 ·cases h
 rename_i h0
 split at h
 ·rename_i h1;exact(h1 h).elim
 rename_i h1
 split at h
 ·cases h
 rename_i h2
 have h1:H4 (W1 m) m.types=0:=Classical.not_not.1 h1
 refine⟨by omega,fun t ht=> ?_,fun t ht=> ?_,fun r hr=> ?_⟩
 ·have:=b5I h1 t ht
  unfold W1 at this
  split at this
  ·cases this
  ·rename_i g1
   split at this
   ·rename_i g2;exact⟨by simpa using g1,g2⟩
   ·cases this
 ·have h2:(m.texts.any fun t=>decide (t.length>65536))=false:=by simpa using h2
  have:=List.any_eq_false.1 h2 t ht
  simp at this;exact this
 ·have:=b5I h r hr
  unfold a1l at this
  split at this
  ·cases this
  ·rename_i g1
   split at this
   ·rename_i g2;exact⟨by simpa using g1,g2⟩
   ·cases this
theorem d6d{t:Ty}(h:a2K t=false):t.name.length≤65536∧t.fields.length≤32∧∀f∈t.fields,f.1.length≤65536:=by
 unfold a2K at h
 simp only[Bool.or_eq_false_iff,decide_eq_false_iff_not,List.any_eq_false,decide_eq_true_eq]at h
 exact⟨by omega,by omega,fun f hf=>by have:=h.2 f hf;omega⟩
theorem d5k{r:Ro}(h:O8 r=false):r.name.length≤65536∧r.params.length≤32∧r.results.length≤8∧r.code.length≤65536∧r.locals≤256∧r.stack≤4096:=by
 unfold O8 at h
 simp only[Bool.or_eq_false_iff,decide_eq_false_iff_not]at h
 omega
theorem c8L{m:Mo}(h:F4 m=0):m.Brief:=by
 obtain⟨_,h1,h2,h3⟩:=d2E h
 exact⟨fun t ht=>d6d (h1 t ht).1,h2,fun r hr=>by have:=d5k (h3 r hr).1;omega⟩
section
variable{E:j6}{w0:World}
theorem b2q{m:Mo}(hm:m.Fits){S:b9}:o9 Tryz.prog E w0 false G5 [Z0 m] S fun d S'=>∃v,d= .tup [v, .int .i64 (J0 m).2]∧a3L S v (J0 m).1 S':=by
 refine c2J ?_
 unfold b6K
 rw[Z0,J5,oD]
 intro k a n
 have c0:w9 (S.set k ⟨3,[F8 m],a⟩) k 3 (F8 m):=w9.new
 have hle:S.le (S.set k ⟨3,[F8 m],a⟩):=b9.le_new n
 rw[show(F8 m).length=3 from rfl]
 generalize S.set k ⟨3,[F8 m],a⟩=S1 at*
 have lm:j2 S1 3 (.ptr k 0)=some (Z0 m):=c0.all (by decide) rfl
 rw[lm,oD]
 refine(b8U hm).use ?_
 rw[c7c,oD,B3]
 have none:∀e:Int,J0 m=([],e)→i9 E (fun d S'=>∃v,d= .tup [v, .int .i64 (J0 m).2]∧a3L S v (J0 m).1 S') (.tup [.nilSlc, .int .i64 e]) S1:=fun e he=>by
  rw[he]
  exact i9.less hle (i9.here ⟨.nilSlc,rfl,Grw.nil _ _⟩)
 refine⟨fun h=>none _ (by unfold J0;rw[if_pos h]),fun h=> ?_⟩
 have h0:F4 m=0:=Classical.not_not.1 h
 rw[lm,oD]
 refine(c9P hm (c8L h0)).use ?_
 rintro v T ⟨rfl,L,hw,rfl⟩
 rw[I8,oD,a4I,oD,B3]
 have hL:=hw.len
 refine⟨fun hgt=>none _ ?_,fun hgt=> ?_⟩
 ·have:2097140<(D2 m).length:=by
   rcases hw with ⟨_,rfl⟩|⟨h,_⟩<;>omega
  unfold J0;rw[if_neg (by rw[h0];simp),if_pos this]
 have hgt:¬2097140<L.length:=by omega
 have hLb:L=D2 m:=by
  rcases hw with ⟨_,rfl⟩|⟨_,h⟩
  ·rfl
  ·omega
 subst hLb
 have he:J0 m=([84,82,77,1]++(F6 (D2 m).length 4++(D2 m++F6 (b8c (D2 m)) 4)),0):=by
  unfold J0;rw[if_neg (by rw[h0];simp),if_neg hgt]
 rw[show m9 1 (List.replicate 4 [D.int .u8 0]) [(0, .int .u8 84),(1, .int .u8 82),(2, .int .u8 77),(3, .int .u8 1)]=some (y9 (([84,82,77,1]:List Int).map (D.int .u8))) from rfl]
 simp only[q7,oD]
 refine .inr fun k2 a2 n2=> ?_
 simp only[d6A,b9.set_same]
 rw[if_pos (by decide)]
 refine .inr ⟨⟨by trivial,by decide,by decide⟩, ?_⟩
 rw[b9.erase_set _ _ _ n2]
 have e4:(D.lst (((y9 (([84,82,77,1]:List Int).map (D.int .u8))).drop 0).take 4) 1)=bD [84,82,77,1]:=rfl
 rw[e4]
 simp only[I8,oD,cvI]
 refine(a5F (s:=4) (by decide) (by decide)).use ?_
 refine(d4v (by omega)).use ?_
 rw[cvI,oD]
 refine(a5F (s:=4) (by decide) (by decide)).use ?_
 rw[a2z,a2z,b2c _ (by decide),b2c _ (by decide)]
 have hl4:m9 1 (List.replicate 4 [D.nilSlc]) [(0,bD [84,82,77,1]),(1,bD (F6 (D2 m).length 4)),(2,bD (D2 m)),(3,bD (F6 (b8c (D2 m)) 4))]=some ([[84,82,77,1],F6 (D2 m).length 4,D2 m,F6 (b8c (D2 m)) 4].map fun b=>[bD b]):=rfl
 have hnew:d6g T 1 ([[84,82,77,1],F6 (D2 m).length 4,D2 m,F6 (b8c (D2 m)) 4].map fun b=>[bD b]) 4 4 true (fun v24 S25=>o9 Tryz.prog E w0 false N9 [v24] S25 fun v26 S27=>i9 E (fun d S'=>∃v,d= .tup [v, .int .i64 (J0 m).2]∧a3L S v (J0 m).1 S') (.tup [v26, .int .i64 0]) S27):=by
  refine .inl ?_
  show o9 Tryz.prog E w0 false N9 [b6n [[84,82,77,1],F6 (D2 m).length 4,D2 m,F6 (b8c (D2 m)) 4]] T _
  refine(d5l (by simp[s7];omega) (by simp)).use fun v S27 hg=> ?_
  have:([[84,82,77,1],F6 (D2 m).length 4,D2 m,F6 (b8c (D2 m)) 4]:List (List Int)).flatten=[84,82,77,1]++(F6 (D2 m).length 4++(D2 m++F6 (b8c (D2 m)) 4)):=by simp
  rw[this]at hg
  rcases hg with hg|⟨e,_⟩
  ·obtain⟨S',s1,s2⟩:=hg.base hle
   exact i9.less s1 (i9.here ⟨v,by rw[he],by rw[he];exact s2⟩)
  ·simp[y9]at e
 simpa only[hl4,oD]using hnew
theorem a6L{m:Mo}(hm:m.Fits):a6Z Tryz.prog E w0 G5 [Z0 m] (.tup [bD (J0 m).1, .int .i64 (J0 m).2]):=fun S=>(b2q hm).fin fun d S' ⟨v,e,hg⟩=>by
 subst e
 exact i9.grwT (pre:=[]) (post:=[.int .i64 (J0 m).2]) hg i9.pure
theorem c9m{m:Mo}(hm:m.Fits):a6Z Tryz.prog E w0 a2x [Z0 m] (.int .i64 (J0 m).2):=fun S=>by
 refine c3d ?_
 unfold b8m
 rw[Z0,J5,oD]
 intro k a n
 have c0:w9 (S.set k ⟨3,[F8 m],a⟩) k 3 (F8 m):=w9.new
 rw[show(F8 m).length=3 from rfl]
 have lm:j2 (S.set k ⟨3,[F8 m],a⟩) 3 (.ptr k 0)=some (Z0 m):=c0.all (by decide) rfl
 rw[lm,oD]
 refine(a6L hm).use ?_
 simp only[exD,List.getElem?_cons_zero,List.getElem?_cons_succ,oD]
 exact i9.drop n i9.pure
end
end
end Go.Proofs.YtchnpgddpaonhaaGreat.d
end
section
open Go.Proofs Go Go.Am
namespace Go.Proofs.YtchnpgddpaonhaaGreat.d
def O0:List (Nat×List Nat):=[(18,[1,3,4,6,8])]
def N8:List (Nat×List Nat):=[(1000006,[13])]
noncomputable def a1c:Code:=(j4 [1,1,1,1,1,1,0,1,0,0] (Tryz.f3.body.getD .skip))
def a0W(E:j6)(w0:World)(x:Bool)(Q:D→b9→Prop):o6→List D→b9→Prop:=
 (o8 0 (w6 Tryz.prog E w0 x O0 N8 (j4 [1,1,1,1,1,1,1] (Tryz.f3.body.getD .skip)) (z7 Tryz.prog Tryz.f3 Q)))
def a1b(E:j6)(w0:World)(x:Bool)(N0:D→D→D→D→D→b9→Prop)(Q:D→b9→Prop)(x1 x3 x4 x6 x8:D)(S:b9):Prop:=
 b7 (l9 x6) fun v40=>
 b7 (i6 .lss x8 v40) fun v41=>
 j1 v41
 (b7 (p6 1 x6 x8) fun v42=>
 j7 S 1 v42 (.int .u8 99) fun v43 S44=>
 b7 (i6 .add x8 (.int .i64 1)) fun v45=>
 N0 x1 x3 x4 x6 v45 S44)
 (b7 (j2 S 3 x3) fun v46=>
 o9 Tryz.prog E w0 x G5 [v46] S fun v47 S48=>
 b7 (o4 v47 0) fun v49=>
 b7 (o4 v47 1) fun v50=>
 b7 (P6 S48 v49) fun v51=>
 b7 (P6 S48 x4) fun v52=>
 b7 (a3I .eql v51 v52) fun v53=>
 b7 (i4 (i0 v53 true) (j2 S48 3 x3)) fun v54=>
 b7 (i4 (i0 v53 true) (j2 S48 3 x1)) fun v55=>
 F7 (i0 v53 true) (fun K=>o9 Tryz.prog E w0 x Z7 [v54,v55] S48 K) S48 fun v56 S57=>
 b7 (o7 v53 v56 (.bool false)) fun v58=>
 F7 (i0 v58 true) (fun K=>o9 Tryz.prog E w0 x a0S [] S57 K) S57 fun v59 S60=>
 b7 (o7 v58 v59 (.bool false)) fun v61=>
 Q v61 S60)
theorem b1f{E:j6}{w0:World}{x:Bool}{N0:D→D→D→D→D→b9→Prop}{Q:D→b9→Prop}{x1 x3 x4 x6 x8:D}{S:b9}(h:a1b E w0 x N0 Q x1 x3 x4 x6 x8 S):
  j0 Tryz.prog E w0 x a1c (j9 71 [1,3,4,6,8] [x1,x3,x4,x6,x8]) S (q8 (fun T S=>N0 (T.getD 1 d9) (T.getD 3 d9) (T.getD 4 d9) (T.getD 6 d9) (T.getD 8 d9) S) (a0W E w0 x Q)):=j3 O0 N8 m7 (by kernel_rfl) h
theorem b1D{E:j6}{w0:World}{x:Bool}{Q:D→b9→Prop}(I:Nat→D→D→D→D→D→b9→Prop)
  (step:∀n x1 x3 x4 x6 x8 S,I n x1 x3 x4 x6 x8 S→a1b E w0 x (fun x1 x3 x4 x6 x8 S=>∃m,m<n∧I m x1 x3 x4 x6 x8 S) Q x1 x3 x4 x6 x8 S)
  {n:Nat} {x1 x3 x4 x6 x8:D} {S:b9} (h:I n x1 x3 x4 x6 x8 S):j0 Tryz.prog E w0 x (.loop a1c) (j9 71 [1,3,4,6,8] [x1,x3,x4,x6,x8]) S (a0W E w0 x Q):=
 o3 (k:=71) (n:=n) (I:=fun n T S=>I n (T.getD 1 d9) (T.getD 3 d9) (T.getD 4 d9) (T.getD 6 d9) (T.getD 8 d9) S) (fun n T S hl hI=>o5 [1,3,4,6,8] hl (j0.mono (b1f (step n _ _ _ _ _ S hI)) fun ex T' S' _ hq=>by cases ex<;>exact hq)) (l8 ..) (Eq.mp (by kernel_rfl) h)
noncomputable def a0Z:Code:=(j4 [1,1,1,1,1,1,0,1,0,0] (Tryz.f3.body.getD .skip))
def a1e(E:j6)(w0:World)(x:Bool)(Q:D→b9→Prop):o6→List D→b9→Prop:=
 (o8 0 (w6 Tryz.prog E w0 x O0 N8 (j4 [1,1,1,1,1,1,1] (Tryz.f3.body.getD .skip)) (z7 Tryz.prog Tryz.f3 Q)))
def a1a(E:j6)(w0:World)(x:Bool)(N1:D→D→D→D→D→b9→Prop)(Q:D→b9→Prop)(x1 x3 x4 x6 x8:D)(S:b9):Prop:=
 b7 (l9 x6) fun v77=>
 b7 (i6 .lss x8 v77) fun v78=>
 j1 v78
 (b7 (p6 1 x6 x8) fun v79=>
 j7 S 1 v79 (.int .u8 99) fun v80 S81=>
 b7 (i6 .add x8 (.int .i64 1)) fun v82=>
 N1 x1 x3 x4 x6 v82 S81)
 (b7 (j2 S 3 x3) fun v83=>
 o9 Tryz.prog E w0 x G5 [v83] S fun v84 S85=>
 b7 (o4 v84 0) fun v86=>
 b7 (o4 v84 1) fun v87=>
 b7 (P6 S85 v86) fun v88=>
 b7 (P6 S85 x4) fun v89=>
 b7 (a3I .eql v88 v89) fun v90=>
 b7 (i4 (i0 v90 true) (j2 S85 3 x3)) fun v91=>
 b7 (i4 (i0 v90 true) (j2 S85 3 x1)) fun v92=>
 F7 (i0 v90 true) (fun K=>o9 Tryz.prog E w0 x Z7 [v91,v92] S85 K) S85 fun v93 S94=>
 b7 (o7 v90 v93 (.bool false)) fun v95=>
 F7 (i0 v95 true) (fun K=>o9 Tryz.prog E w0 x a0S [] S94 K) S94 fun v96 S97=>
 b7 (o7 v95 v96 (.bool false)) fun v98=>
 Q v98 S97)
theorem b0T{E:j6}{w0:World}{x:Bool}{N1:D→D→D→D→D→b9→Prop}{Q:D→b9→Prop}{x1 x3 x4 x6 x8:D}{S:b9}(h:a1a E w0 x N1 Q x1 x3 x4 x6 x8 S):
  j0 Tryz.prog E w0 x a0Z (j9 71 [1,3,4,6,8] [x1,x3,x4,x6,x8]) S (q8 (fun T S=>N1 (T.getD 1 d9) (T.getD 3 d9) (T.getD 4 d9) (T.getD 6 d9) (T.getD 8 d9) S) (a1e E w0 x Q)):=j3 O0 N8 m7 (by kernel_rfl) h
theorem b1q{E:j6}{w0:World}{x:Bool}{Q:D→b9→Prop}(I:Nat→D→D→D→D→D→b9→Prop)
  (step:∀n x1 x3 x4 x6 x8 S,I n x1 x3 x4 x6 x8 S→a1a E w0 x (fun x1 x3 x4 x6 x8 S=>∃m,m<n∧I m x1 x3 x4 x6 x8 S) Q x1 x3 x4 x6 x8 S)
  {n:Nat} {x1 x3 x4 x6 x8:D} {S:b9} (h:I n x1 x3 x4 x6 x8 S):j0 Tryz.prog E w0 x (.loop a0Z) (j9 71 [1,3,4,6,8] [x1,x3,x4,x6,x8]) S (a1e E w0 x Q):=
 o3 (k:=71) (n:=n) (I:=fun n T S=>I n (T.getD 1 d9) (T.getD 3 d9) (T.getD 4 d9) (T.getD 6 d9) (T.getD 8 d9) S) (fun n T S hl hI=>o5 [1,3,4,6,8] hl (j0.mono (b0T (step n _ _ _ _ _ S hI)) fun ex T' S' _ hq=>by cases ex<;>exact hq)) (l8 ..) (Eq.mp (by kernel_rfl) h)
def a6T(E:j6)(w0:World)(x:Bool)(Q:D→b9→Prop)(a0:D)(S:b9):Prop:=
 b7 (q6 a0) fun cs=>m8 S cs fun v0 S1=>
 b7 (j2 S1 3 v0) fun v2=>
 o9 Tryz.prog E w0 x b9u [v2,(.int .i64 100000)] S1 fun v3 S4=>
 b7 (i6 .gtr v3 (.int .i64 100000)) fun v5=>
 j1 v5
 (o9 Tryz.prog E w0 x a0S [] S4 fun v6 S7=>
 Q v6 S7)
 (b7 (j2 S4 3 v0) fun v8=>
 o9 Tryz.prog E w0 x a5s [v8] S4 fun v9 S10=>
 m8 S10 [.nilSlc, .nilSlc, .nilSlc] fun v11 S12=>
 j7 S12 3 v11 v9 fun v13 S14=>
 b7 (j2 S14 3 v0) fun v15=>
 o9 Tryz.prog E w0 x a8w [v15] S14 fun v16 S17=>
 b7 (o4 v16 0) fun v18=>
 b7 (o4 v16 1) fun v19=>
 b7 (j2 S17 3 v11) fun v20=>
 o9 Tryz.prog E w0 x G5 [v20] S17 fun v21 S22=>
 b7 (o4 v21 0) fun v23=>
 b7 (o4 v21 1) fun v24=>
 x=false∧(b7 (P6 S22 v23) fun v25=>
 b7 (P6 S22 v18) fun v26=>
 b7 (a3I .neq v25 v26) fun v27=>
 b7 (i4 (i0 v27 false) (some v24)) fun v28=>
 b7 (i4 (i0 v27 false) (some v19)) fun v29=>
 b7 (i4 (i0 v27 false) (i6 .neq v28 v29)) fun v30=>
 b7 (o7 v27 (.bool true) v30) fun v31=>
 b7 (i4 (i0 v31 false) (j2 S22 3 v11)) fun v32=>
 F7 (i0 v31 false) (fun K=>o9 Tryz.prog E w0 x a2x [v32] S22 K) S22 fun v33 S34=>
 b7 (i4 (i0 v31 false) (j2 S34 3 v0)) fun v35=>
 F7 (i0 v31 false) (fun K=>o9 Tryz.prog E w0 x a2s [v35] S34 K) S34 fun v36 S37=>
 b7 (i4 (i0 v31 false) (i6 .neq v33 v36)) fun v38=>
 b7 (o7 v31 (.bool true) v38) fun v39=>
 j1 v39
 (Q (.bool false) S37)
 (j0 Tryz.prog E w0 x (.loop a1c) (j9 71 [1,3,4,6,8] [v0,v11,v18,v23,(.int .i64 0)]) S37 (a0W E w0 x Q)))∧
 (b7 (P6 S22 v23) fun v62=>
 b7 (P6 S22 v18) fun v63=>
 b7 (a3I .neq v62 v63) fun v64=>
 b7 (i4 (i0 v64 false) (some v24)) fun v65=>
 b7 (i4 (i0 v64 false) (some v19)) fun v66=>
 b7 (i4 (i0 v64 false) (i6 .neq v65 v66)) fun v67=>
 b7 (o7 v64 (.bool true) v67) fun v68=>
 b7 (i4 (i0 v68 false) (j2 S22 3 v11)) fun v69=>
 b7 (i4 (i0 v68 false) (j2 S22 3 v0)) fun v70=>
 F7 (i0 v68 false) (fun K=>o9 Tryz.prog E w0 x a2x [v69] S22 K) S22 fun v71 S72=>
 F7 (i0 v68 false) (fun K=>o9 Tryz.prog E w0 x a2s [v70] S72 K) S72 fun v73 S74=>
 b7 (i4 (i0 v68 false) (i6 .neq v71 v73)) fun v75=>
 b7 (o7 v68 (.bool true) v75) fun v76=>
 j1 v76
 (Q (.bool false) S74)
 (j0 Tryz.prog E w0 x (.loop a0Z) (j9 71 [1,3,4,6,8] [v0,v11,v18,v23,(.int .i64 0)]) S74 (a1e E w0 x Q)))∧
 True)
theorem b3F{E:j6}{w0:World}{x:Bool}{Q:D→b9→Prop}{a0:D}{S:b9}(h:a6T E w0 x (i9 E Q) a0 S):o9 Tryz.prog E w0 x a6O [a0] S Q:=
 l7 O0 N8 (fn:=Tryz.f3) (c:=Tryz.f3.body.getD .skip) m7 Tryz.func3 (by kernel_rfl) (by kernel_rfl) h
def c8M:List (Nat×List Nat):=[]
def c8h:List (Nat×List Nat):=[]
def b8p(E:j6)(w0:World)(x:Bool)(Q:D→b9→Prop)(S:b9):Prop:=
 b7 (B8 (s5 [.nilSlc, .nilSlc, .nilSlc] [])) fun v0=>
 o9 Tryz.prog E w0 x G5 [v0] S fun v1 S2=>
 b7 (o4 v1 0) fun v3=>
 b7 (o4 v1 1) fun v4=>
 b7 (i6 .eql v4 (.int .i64 0)) fun v5=>
 b7 (i4 (i0 v5 true) (some v3)) fun v6=>
 b7 (i4 (i0 v5 true) (P6 S2 v6)) fun v7=>
 b7 (i4 (i0 v5 true) (a3I .eql v7 (.str [84,82,77,1,3,0,0,0,0,0,0,18,217,65,255]))) fun v8=>
 b7 (o7 v5 v8 (.bool false)) fun v9=>
 Q v9 S2
theorem c3K{E:j6}{w0:World}{x:Bool}{Q:D→b9→Prop}{S:b9}(h:b8p E w0 x (i9 E Q) S):o9 Tryz.prog E w0 x a0S [] S Q:=
 l7 c8M c8h (fn:=Tryz.f6) (c:=Tryz.f6.body.getD .skip) m7 Tryz.func6 (by kernel_rfl) (by kernel_rfl) h
end Go.Proofs.YtchnpgddpaonhaaGreat.d
end
section
open Go.Proofs Go Go.Am Go.Op
namespace Go.Proofs.YtchnpgddpaonhaaGreat.d
section
section
variable{E:j6}{w0:World}
theorem e1A:(⟨[],[],[]⟩:Mo).Ok:=by constructor<;>simp
theorem e3f:J0 ⟨[],[],[]⟩=([84,82,77,1,3,0,0,0,0,0,0,18,217,65,255],0):=by kernel_rfl
theorem c8Z:a6Z Tryz.prog E w0 a0S [] (.bool true):=fun S=>by
 refine c3K ?_
 unfold b8p
 have e:B8 (s5 [.nilSlc, .nilSlc, .nilSlc] [])=some (.agg [.nilSlc, .nilSlc, .nilSlc]):=rfl
 rw[e,oD]
 have fm:(⟨[],[],[]⟩:Mo).Fits:=Mo.Small.fits (N:=0) e1A (by constructor<;>simp) (by decide)
 refine DF.weak (es:=[Z0 ⟨[],[],[]⟩]) ⟨Wk.agg ⟨Wk.nil _,Wk.nil _,Wk.nil _,trivial⟩,trivial⟩ ((a6L fm).use ?_)
 simp only[e3f,exD,List.getElem?_cons_zero,List.getElem?_cons_succ,oD,a0i,decide_true,C5,P7,gdT,c4N,show((true==true)=true) from rfl]
 have eb:a3I .eql (.str (b8e [84,82,77,1,3,0,0,0,0,0,0,18,217,65,255])) (.str [84,82,77,1,3,0,0,0,0,0,0,18,217,65,255])=some (.bool true):=rfl
 simp only[eb,oD,C3,if_true]
 exact i9.pure
end
end
section
theorem d9y(l:List Int):(b8e l).length=l.length:=by simp[b8e]
theorem d8Y{m:Mo}(h:(J0 m).2=0):F4 m=0∧(J0 m).1=[84,82,77,1]++(F6 (D2 m).length 4++(D2 m++F6 (b8c (D2 m)) 4)):=by
 unfold J0 at h ⊢
 split at h
 ·rename_i h0;exact(h0 h).elim
 rename_i h0
 split at h
 ·cases h
 rename_i h1
 rw[if_neg h0,if_neg h1]
 exact⟨Classical.not_not.1 h0,rfl⟩
theorem d0X:∀(f n:Nat),n<256*128^f→∀b∈b4Z f n,Y9 b
 |0,n,h,b,hb=>by
  simp only[b4Z,List.mem_singleton]at hb
  subst hb
  exact⟨by omega,by omega⟩
 |f+1,n,h,b,hb=>by
  rw[b4Z]at hb
  split at hb
  ·simp only[List.mem_singleton]at hb
   subst hb
   exact⟨by omega,by omega⟩
  ·rcases List.mem_cons.1 hb with rfl|hb
   ·exact⟨by omega,by omega⟩
   ·rw[Nat.pow_succ]at h
    exact d0X f _ (by omega) b hb
theorem a0I{n:Int}:∀b∈A7 n,Y9 b:=d0X 9 _ (by omega)
theorem d9Z{s:Tx}:∀b∈bytesOf s,Y9 b:=fun b hb=>by
 simp only[bytesOf,List.mem_map]at hb
 obtain⟨x,_,rfl⟩:=hb
 have:=x.toNat_lt
 exact⟨by omega,by omega⟩
def a4b(l:List Int):Prop:=∀b∈l,Y9 b
theorem a4b.app{l m:List Int}(h:a4b l)(k:a4b m):a4b (l++m):=fun b hb=>(List.mem_append.1 hb).elim (h b) (k b)
theorem a4b.flat{α:Type}{f:α→List Int}{l:List α}(h:∀a∈l,a4b (f a)):a4b (l.flatMap f):=fun b hb=>by
 obtain⟨a,ha,hb⟩:=List.mem_flatMap.1 hb
 exact h a ha b hb
theorem b2o{s:Tx}:a4b (K3 s):=a4b.app a0I d9Z
theorem e0f{t:Ty}(h:t.Ok):a4b (tyB t):=fun b hb=>by
 unfold tyB at hb
 rcases List.mem_cons.1 hb with rfl|hb
 ·exact h.kind
 ·have:a4b (if t.kind=6 then K3 t.name++(A7 t.fields.length++t.fields.flatMap a6W) else A7 t.elem++if t.kind=7 then A7 t.len else[]):=by
   split
   ·exact b2o.app (a4b.app a0I (a4b.flat fun f _=>b2o.app a0I))
   ·refine a4b.app a0I ?_
    split
    ·exact a0I
    ·intro b hb;cases hb
  exact this b hb
theorem d0N{l:List Int}:a4b (b8N l):=a4b.app a0I (a4b.flat fun _ _=>a0I)
theorem d7w{m:Mo}(h:m.Ok):a4b (D2 m):=by
 unfold D2
 refine a4b.app a0I (a4b.app (a4b.flat fun t ht=>e0f (h.ty t ht)) (a4b.app a0I (a4b.app (a4b.flat fun _ _=>b2o) (a4b.app a0I (a4b.flat fun r hr=> ?_)))))
 unfold roB
 exact b2o.app (d0N.app (d0N.app (a4b.app a0I (a4b.app a0I b2o))))
end
end Go.Proofs.YtchnpgddpaonhaaGreat.d
end
section
open Go.Proofs Go Go.Am
namespace Go.Proofs.YtchnpgddpaonhaaGreat.d
variable{E:j6}{w0:World}{x:Bool}{Q:D→b9→Prop}
def b3n:List (Nat×List Nat):=[(4,[0,3])]
def b3o:List (Nat×List Nat):=[]
noncomputable def b0Z:Code:=(j4 [1,1,0,0,0] (Tryz.f76.body.getD .skip))
def b1b(E:j6)(w0:World)(x:Bool)(Q:D→b9→Prop):o6→List D→b9→Prop:=
 (o8 0 (w6 Tryz.prog E w0 x b3n b3o (j4 [1,1,1] (Tryz.f76.body.getD .skip)) (z7 Tryz.prog Tryz.f76 Q)))
def b1w(E:j6)(w0:World)(x:Bool)(N0:D→D→b9→Prop)(Q:D→b9→Prop)(x0 x3:D)(S:b9):Prop:=
 b7 (i6 .gtr x0 (.int .u64 127)) fun v0=>
 j1 v0
 (b7 (i6 .rem x0 (.int .u64 128)) fun v1=>
 b7 (i6 .add v1 (.int .u64 128)) fun v2=>
 b7 (E7 .u8 v2) fun v3=>
 q7 S 1 (m9 1 (List.replicate 1 [(.int .u8 0)]) [(0,v3)]) 1 fun v4 S5=>
 r6 S5 1 1 x3 v4 fun v6 S7=>
 b7 (i6 .quo x0 (.int .u64 128)) fun v8=>
 N0 v8 v6 S7)
 (b7 (E7 .u8 x0) fun v9=>
 q7 S 1 (m9 1 (List.replicate 1 [(.int .u8 0)]) [(0,v9)]) 1 fun v10 S11=>
 r6 S11 1 1 x3 v10 fun v12 S13=>
 Q v12 S13)
theorem c3n{N0:D→D→b9→Prop}{Q:D→b9→Prop}{x0 x3:D}{S:b9}(h:b1w E w0 x N0 Q x0 x3 S):
  j0 Tryz.prog E w0 x b0Z (j9 21 [0,3] [x0,x3]) S (q8 (fun T S=>N0 (T.getD 0 d9) (T.getD 3 d9) S) (b1b E w0 x Q)):=j3 b3n b3o m7 (by kernel_rfl) h
theorem c2L(I:Nat→D→D→b9→Prop)
  (step:∀n x0 x3 S,I n x0 x3 S→b1w E w0 x (fun x0 x3 S=>∃m,m<n∧I m x0 x3 S) Q x0 x3 S)
  {n:Nat} {x0 x3:D} {S:b9} (h:I n x0 x3 S):j0 Tryz.prog E w0 x (.loop b0Z) (j9 21 [0,3] [x0,x3]) S (b1b E w0 x Q):=
 o3 (k:=21) (n:=n) (I:=fun n T S=>I n (T.getD 0 d9) (T.getD 3 d9) S) (fun n T S hl hI=>o5 [0,3] hl (j0.mono (c3n (step n _ _ S hI)) fun ex T' S' _ hq=>by cases ex<;>exact hq)) (l8 ..) (Eq.mp (by kernel_rfl) h)
def c4A(E:j6)(w0:World)(x:Bool)(Q:D→b9→Prop)(a0:D)(S:b9):Prop:=
 j0 Tryz.prog E w0 x (.loop b0Z) (j9 21 [0,3] [a0, .nilSlc]) S (b1b E w0 x Q)
theorem c7N{a0:D}{S:b9}(h:c4A E w0 x (i9 E Q) a0 S):o9 Tryz.prog E w0 x a6i [a0] S Q:=
 l7 b3n b3o (fn:=Tryz.f76) (c:=Tryz.f76.body.getD .skip) m7 Tryz.func76 (by kernel_rfl) (by kernel_rfl) h
def a9i:List (Nat×List Nat):=[(6,[0,1,5,6])]
def a7M:List (Nat×List Nat):=[]
noncomputable def a6F:Code:=(j4 [1,1,0,1,0,0] (Tryz.f21.body.getD .skip))
def a6M(E:j6)(w0:World)(x:Bool)(Q:D→b9→Prop):o6→List D→b9→Prop:=
 (o8 0 (w6 Tryz.prog E w0 x a9i a7M (j4 [1,1,1] (Tryz.f21.body.getD .skip)) (z7 Tryz.prog Tryz.f21 Q)))
def a6r(E:j6)(w0:World)(x:Bool)(N0:D→D→D→D→b9→Prop)(Q:D→b9→Prop)(x0 x1 x5 x6:D)(S:b9):Prop:=
 b7 (i6 .lss x6 x1) fun v0=>
 b7 (i4 (i0 v0 true) (some x1)) fun v1=>
 b7 (i4 (i0 v0 true) (i6 .leq v1 (.int .i64 8))) fun v2=>
 b7 (o7 v0 v2 (.bool false)) fun v3=>
 j1 v3
 (b7 (i6 .mul (.int .i64 8) x6) fun v4=>
 b7 (i6 .shr x0 v4) fun v5=>
 b7 (E7 .u8 v5) fun v6=>
 q7 S 1 (m9 1 (List.replicate 1 [(.int .u8 0)]) [(0,v6)]) 1 fun v7 S8=>
 r6 S8 1 1 x5 v7 fun v9 S10=>
 b7 (i6 .add x6 (.int .i64 1)) fun v11=>
 N0 x0 x1 v9 v11 S10)
 (Q x5 S)
theorem b9G{N0:D→D→D→D→b9→Prop}{Q:D→b9→Prop}{x0 x1 x5 x6:D}{S:b9}(h:a6r E w0 x N0 Q x0 x1 x5 x6 S):
  j0 Tryz.prog E w0 x a6F (j9 25 [0,1,5,6] [x0,x1,x5,x6]) S (q8 (fun T S=>N0 (T.getD 0 d9) (T.getD 1 d9) (T.getD 5 d9) (T.getD 6 d9) S) (a6M E w0 x Q)):=j3 a9i a7M m7 (by kernel_rfl) h
theorem b9g(I:Nat→D→D→D→D→b9→Prop)
  (step:∀n x0 x1 x5 x6 S,I n x0 x1 x5 x6 S→a6r E w0 x (fun x0 x1 x5 x6 S=>∃m,m<n∧I m x0 x1 x5 x6 S) Q x0 x1 x5 x6 S)
  {n:Nat} {x0 x1 x5 x6:D} {S:b9} (h:I n x0 x1 x5 x6 S):j0 Tryz.prog E w0 x (.loop a6F) (j9 25 [0,1,5,6] [x0,x1,x5,x6]) S (a6M E w0 x Q):=
 o3 (k:=25) (n:=n) (I:=fun n T S=>I n (T.getD 0 d9) (T.getD 1 d9) (T.getD 5 d9) (T.getD 6 d9) S) (fun n T S hl hI=>o5 [0,1,5,6] hl (j0.mono (b9G (step n _ _ _ _ S hI)) fun ex T' S' _ hq=>by cases ex<;>exact hq)) (l8 ..) (Eq.mp (by kernel_rfl) h)
def b8Q(E:j6)(w0:World)(x:Bool)(Q:D→b9→Prop)(a0 a1:D)(S:b9):Prop:=
 j0 Tryz.prog E w0 x (.loop a6F) (j9 25 [0,1,5,6] [a0,a1, .nilSlc,(.int .i64 0)]) S (a6M E w0 x Q)
theorem c3Z{a0 a1:D}{S:b9}(h:b8Q E w0 x (i9 E Q) a0 a1 S):o9 Tryz.prog E w0 x a2A [a0,a1] S Q:=
 l7 a9i a7M (fn:=Tryz.f21) (c:=Tryz.f21.body.getD .skip) m7 Tryz.func21 (by kernel_rfl) (by kernel_rfl) h
def R5:List (Nat×List Nat):=[(6,[0,3,4]),(12,[0,3,4,5])]
def Q1:List (Nat×List Nat):=[(14,[0,3,4,5])]
noncomputable def c7k:Code:=(j4 [1,1,0,1,0,0,1,0,0,1,0,0,1,1] (Tryz.f22.body.getD .skip))
def c5H(E:j6)(w0:World)(x:Bool)(N1:D→D→D→D→b9→Prop)(N0:D→D→D→b9→Prop)(Q:D→b9→Prop):o6→List D→b9→Prop:=
 (q8 (fun T S=>N1 (T.getD 0 d9) (T.getD 3 d9) (T.getD 4 d9) (T.getD 5 d9) S) (o8 2 (o8 1 (w6 Tryz.prog E w0 x R5 Q1 (j4 [1,1,0,1,0,0,1,1] (Tryz.f22.body.getD .skip)) (q8 (fun T S=>N0 (T.getD 0 d9) (T.getD 3 d9) (T.getD 4 d9) S) (o8 0 (w6 Tryz.prog E w0 x R5 Q1 (j4 [1,1,1] (Tryz.f22.body.getD .skip)) (z7 Tryz.prog Tryz.f22 Q))))))))
def b6x(E:j6)(w0:World)(x:Bool)(N1:D→D→D→D→b9→Prop)(N0:D→D→D→b9→Prop)(Q:D→b9→Prop)(x0 x3 x4 x5:D)(S:b9):Prop:=
 b7 (i6 .add x5 (.int .i64 1)) fun v3=>
 N1 x0 x3 x4 v3 S
def a4e(E:j6)(w0:World)(x:Bool)(N1:D→D→D→D→b9→Prop)(N0:D→D→D→b9→Prop)(Q:D→b9→Prop)(x0 x3 x4 x5:D)(S:b9):Prop:=j0 Tryz.prog E w0 x c7k (j9 35 [0,3,4,5] [x0,x3,x4,x5]) S (c5H E w0 x N1 N0 Q)
theorem c1x{N1:D→D→D→D→b9→Prop}{N0:D→D→D→b9→Prop}{Q:D→b9→Prop}{x0 x3 x4 x5:D}{S:b9}(h:b6x E w0 x N1 N0 Q x0 x3 x4 x5 S):a4e E w0 x N1 N0 Q x0 x3 x4 x5 S:=j3 R5 Q1 m7 (by kernel_rfl) h
noncomputable def b0W:Code:=(j4 [1,1,0,1,0,0,1,0,0,1,0,0] (Tryz.f22.body.getD .skip))
def b0N(E:j6)(w0:World)(x:Bool)(N0:D→D→D→b9→Prop)(Q:D→b9→Prop):o6→List D→b9→Prop:=
 (o8 2 (o8 1 (w6 Tryz.prog E w0 x R5 Q1 (j4 [1,1,0,1,0,0,1,1] (Tryz.f22.body.getD .skip)) (q8 (fun T S=>N0 (T.getD 0 d9) (T.getD 3 d9) (T.getD 4 d9) S) (o8 0 (w6 Tryz.prog E w0 x R5 Q1 (j4 [1,1,1] (Tryz.f22.body.getD .skip)) (z7 Tryz.prog Tryz.f22 Q)))))))
def b1A(E:j6)(w0:World)(x:Bool)(N0:D→D→D→b9→Prop)(N1:D→D→D→D→b9→Prop)(Q:D→b9→Prop)(x0 x3 x4 x5:D)(S:b9):Prop:=
 b7 (i6 .lss x5 (.int .i64 8)) fun v2=>
 j1 v2
 (b7 (i6 .and x3 (.int .u32 1)) fun v4=>
 b7 (p6 1 x0 x4) fun v5=>
 b7 (b8 S v5) fun v6=>
 b7 (E7 .u32 v6) fun v7=>
 b7 (i6 .shr v7 x5) fun v8=>
 b7 (i6 .and v8 (.int .u32 1)) fun v9=>
 b7 (i6 .neq v4 v9) fun v10=>
 b7 (i6 .shr x3 (.int .u64 1)) fun v11=>
 j1 v10
 (b7 (i6 .xor v11 (.int .u32 3988292384)) fun v12=>
 a4e E w0 x N1 N0 Q x0 v12 x4 x5 S)
 (a4e E w0 x N1 N0 Q x0 v11 x4 x5 S))
 (b7 (i6 .add x4 (.int .i64 1)) fun v13=>
 N0 x0 x3 v13 S)
theorem c3m{N0:D→D→D→b9→Prop}{N1:D→D→D→D→b9→Prop}{Q:D→b9→Prop}{x0 x3 x4 x5:D}{S:b9}(h:b1A E w0 x N0 N1 Q x0 x3 x4 x5 S):
  j0 Tryz.prog E w0 x b0W (j9 35 [0,3,4,5] [x0,x3,x4,x5]) S (q8 (fun T S=>N1 (T.getD 0 d9) (T.getD 3 d9) (T.getD 4 d9) (T.getD 5 d9) S) (b0N E w0 x N0 Q)):=j3 R5 Q1 m7 (by kernel_rfl) h
theorem c3w{N0:D→D→D→b9→Prop}{Q:D→b9→Prop}(I:Nat→D→D→D→D→b9→Prop)
  (step:∀n x0 x3 x4 x5 S,I n x0 x3 x4 x5 S→b1A E w0 x N0 (fun x0 x3 x4 x5 S=>∃m,m<n∧I m x0 x3 x4 x5 S) Q x0 x3 x4 x5 S)
  {n:Nat} {x0 x3 x4 x5:D} {S:b9} (h:I n x0 x3 x4 x5 S):j0 Tryz.prog E w0 x (.loop b0W) (j9 35 [0,3,4,5] [x0,x3,x4,x5]) S (b0N E w0 x N0 Q):=
 o3 (k:=35) (n:=n) (I:=fun n T S=>I n (T.getD 0 d9) (T.getD 3 d9) (T.getD 4 d9) (T.getD 5 d9) S) (fun n T S hl hI=>o5 [0,3,4,5] hl (j0.mono (c3m (step n _ _ _ _ S hI)) fun ex T' S' _ hq=>by cases ex<;>exact hq)) (l8 ..) (Eq.mp (by kernel_rfl) h)
noncomputable def b1p:Code:=(j4 [1,1,0,1,0,0] (Tryz.f22.body.getD .skip))
def b1a(E:j6)(w0:World)(x:Bool)(Q:D→b9→Prop):o6→List D→b9→Prop:=
 (o8 0 (w6 Tryz.prog E w0 x R5 Q1 (j4 [1,1,1] (Tryz.f22.body.getD .skip)) (z7 Tryz.prog Tryz.f22 Q)))
def b1k(E:j6)(w0:World)(x:Bool)(N0:D→D→D→b9→Prop)(Q:D→b9→Prop)(x0 x3 x4:D)(S:b9):Prop:=
 b7 (l9 x0) fun v0=>
 b7 (i6 .lss x4 v0) fun v1=>
 j1 v1
 (j0 Tryz.prog E w0 x (.loop b0W) (j9 35 [0,3,4,5] [x0,x3,x4,(.int .i64 0)]) S (b0N E w0 x N0 Q))
 (b7 (unD .xor x3) fun v14=>
 Q v14 S)
theorem c3P{N0:D→D→D→b9→Prop}{Q:D→b9→Prop}{x0 x3 x4:D}{S:b9}(h:b1k E w0 x N0 Q x0 x3 x4 S):
  j0 Tryz.prog E w0 x b1p (j9 35 [0,3,4] [x0,x3,x4]) S (q8 (fun T S=>N0 (T.getD 0 d9) (T.getD 3 d9) (T.getD 4 d9) S) (b1a E w0 x Q)):=j3 R5 Q1 m7 (by kernel_rfl) h
theorem c3h(I:Nat→D→D→D→b9→Prop)
  (step:∀n x0 x3 x4 S,I n x0 x3 x4 S→b1k E w0 x (fun x0 x3 x4 S=>∃m,m<n∧I m x0 x3 x4 S) Q x0 x3 x4 S)
  {n:Nat} {x0 x3 x4:D} {S:b9} (h:I n x0 x3 x4 S):j0 Tryz.prog E w0 x (.loop b1p) (j9 35 [0,3,4] [x0,x3,x4]) S (b1a E w0 x Q):=
 o3 (k:=35) (n:=n) (I:=fun n T S=>I n (T.getD 0 d9) (T.getD 3 d9) (T.getD 4 d9) S) (fun n T S hl hI=>o5 [0,3,4] hl (j0.mono (c3P (step n _ _ _ S hI)) fun ex T' S' _ hq=>by cases ex<;>exact hq)) (l8 ..) (Eq.mp (by kernel_rfl) h)
def c4G(E:j6)(w0:World)(x:Bool)(Q:D→b9→Prop)(a0:D)(S:b9):Prop:=
 j0 Tryz.prog E w0 x (.loop b1p) (j9 35 [0,3,4] [a0,(.int .u32 4294967295),(.int .i64 0)]) S (b1a E w0 x Q)
theorem c7o{a0:D}{S:b9}(h:c4G E w0 x (i9 E Q) a0 S):o9 Tryz.prog E w0 x b6G [a0] S Q:=
 l7 R5 Q1 (fn:=Tryz.f22) (c:=Tryz.f22.body.getD .skip) m7 Tryz.func22 (by kernel_rfl) (by kernel_rfl) h
def c7r:List (Nat×List Nat):=[]
def c8G:List (Nat×List Nat):=[]
def b8l(E:j6)(w0:World)(x:Bool)(Q:D→b9→Prop)(a0 a1:D)(S:b9):Prop:=
 b7 (q6 a0) fun cs=>m8 S cs fun v0 S1=>
 b7 (i6 .geq a1 (.int .i64 1)) fun v2=>
 b7 (i4 (i0 v2 true) (some a1)) fun v3=>
 b7 (i4 (i0 v2 true) (i6 .leq v3 (.int .i64 5))) fun v4=>
 b7 (o7 v2 v4 (.bool false)) fun v5=>
 b7 (i4 (i0 v5 false) (some a1)) fun v6=>
 b7 (i4 (i0 v5 false) (i6 .geq v6 (.int .i64 16))) fun v7=>
 b7 (i4 (i0 v5 false) (some v7)) fun v8=>
 b7 (i4 (i0 v8 true) (some a1)) fun v9=>
 b7 (i4 (i0 v8 true) (i6 .sub v9 (.int .i64 16))) fun v10=>
 b7 (i4 (i0 v8 true) (i5 0 v0)) fun v11=>
 b7 (i4 (i0 v8 true) (b8 S1 v11)) fun v12=>
 b7 (i4 (i0 v8 true) (l9 v12)) fun v13=>
 b7 (i4 (i0 v8 true) (i6 .lss v10 v13)) fun v14=>
 b7 (i4 (i0 v5 false) (o7 v8 v14 (.bool false))) fun v15=>
 b7 (o7 v5 (.bool true) v15) fun v16=>
 Q v16 S1
theorem c4i{a0 a1:D}{S:b9}(h:b8l E w0 x (i9 E Q) a0 a1 S):o9 Tryz.prog E w0 x a0P [a0,a1] S Q:=
 l7 c7r c8G (fn:=Tryz.f54) (c:=Tryz.f54.body.getD .skip) m7 Tryz.func54 (by kernel_rfl) (by kernel_rfl) h
def b3l:List (Nat×List Nat):=[(4,[1,2,5])]
def b3Y:List (Nat×List Nat):=[]
noncomputable def b1B:Code:=(j4 [1,0,1,0,0] (Tryz.f55.body.getD .skip))
def b1n(E:j6)(w0:World)(x:Bool)(Q:D→b9→Prop):o6→List D→b9→Prop:=
 (o8 0 (w6 Tryz.prog E w0 x b3l b3Y (j4 [1,1] (Tryz.f55.body.getD .skip)) (z7 Tryz.prog Tryz.f55 Q)))
def b0U(E:j6)(w0:World)(x:Bool)(N0:D→D→D→b9→Prop)(Q:D→b9→Prop)(x1 x2 x5:D)(S:b9):Prop:=
 b7 (l9 x1) fun v2=>
 b7 (i6 .lss x5 v2) fun v3=>
 j1 v3
 (b7 (j2 S 3 x2) fun v4=>(True)∧
 b7 (p6 1 x1 x5) fun v5=>
 b7 (b8 S v5) fun v6=>(True)∧
 DF E (J6 Tryz.prog E w0) a0P [v4,v6] S fun v7 S8=>(True)∧
 b7 (unD .not v7) fun v9=>
 j1 v9
 (Q (.bool false) S8)
 (b7 (i6 .add x5 (.int .i64 1)) fun v10=>
 N0 x1 x2 v10 S8))
 (Q (.bool true) S)
theorem c3q{N0:D→D→D→b9→Prop}{Q:D→b9→Prop}{x1 x2 x5:D}{S:b9}(h:b0U E w0 x N0 Q x1 x2 x5 S):
  j0 Tryz.prog E w0 x b1B (j9 19 [1,2,5] [x1,x2,x5]) S (q8 (fun T S=>N0 (T.getD 1 d9) (T.getD 2 d9) (T.getD 5 d9) S) (b1n E w0 x Q)):=j3 b3l b3Y m7 (by kernel_rfl) h
theorem c3N(I:Nat→D→D→D→b9→Prop)
  (step:∀n x1 x2 x5 S,I n x1 x2 x5 S→b0U E w0 x (fun x1 x2 x5 S=>∃m,m<n∧I m x1 x2 x5 S) Q x1 x2 x5 S)
  {n:Nat} {x1 x2 x5:D} {S:b9} (h:I n x1 x2 x5 S):j0 Tryz.prog E w0 x (.loop b1B) (j9 19 [1,2,5] [x1,x2,x5]) S (b1n E w0 x Q):=
 o3 (k:=19) (n:=n) (I:=fun n T S=>I n (T.getD 1 d9) (T.getD 2 d9) (T.getD 5 d9) S) (fun n T S hl hI=>o5 [1,2,5] hl (j0.mono (c3q (step n _ _ _ S hI)) fun ex T' S' _ hq=>by cases ex<;>exact hq)) (l8 ..) (Eq.mp (by kernel_rfl) h)
def c4F(E:j6)(w0:World)(x:Bool)(Q:D→b9→Prop)(a0 a1:D)(S:b9):Prop:=
 b7 (q6 a0) fun cs=>m8 S cs fun v0 S1=>
 j0 Tryz.prog E w0 x (.loop b1B) (j9 19 [1,2,5] [a1,v0,(.int .i64 0)]) S1 (b1n E w0 x Q)
theorem c8R{a0 a1:D}{S:b9}(h:c4F E w0 x (i9 E Q) a0 a1 S):o9 Tryz.prog E w0 x b0H [a0,a1] S Q:=
 l7 b3l b3Y (fn:=Tryz.f55) (c:=Tryz.f55.body.getD .skip) m7 Tryz.func55 (by kernel_rfl) (by kernel_rfl) h
def b1e:List (Nat×List Nat):=[(4,[1,3])]
def b0V:List (Nat×List Nat):=[]
noncomputable def a9M:Code:=(j4 [1,0,1,0,0] (Tryz.f28.body.getD .skip))
def a9f(E:j6)(w0:World)(x:Bool)(Q:D→b9→Prop):o6→List D→b9→Prop:=
 (o8 0 (w6 Tryz.prog E w0 x b1e b0V (j4 [1,1] (Tryz.f28.body.getD .skip)) (z7 Tryz.prog Tryz.f28 Q)))
def a8M(E:j6)(w0:World)(x:Bool)(N0:D→D→b9→Prop)(Q:D→b9→Prop)(x1 x3:D)(S:b9):Prop:=
 b7 (i5 2 x1) fun v2=>
 b7 (b8 S v2) fun v3=>
 b7 (l9 v3) fun v4=>
 b7 (i6 .lss x3 v4) fun v5=>
 j1 v5
 (b7 (i5 2 x1) fun v6=>
 b7 (b8 S v6) fun v7=>
 b7 (p6 2 v7 x3) fun v8=>
 b7 (i5 0 v8) fun v9=>
 b7 (b8 S v9) fun v10=>
 b7 (J3 v10) fun v11=>
 b7 (i6 .gtr v11 (.int .i64 65536)) fun v12=>
 j1 v12
 (Q (.bool true) S)
 (b7 (i6 .add x3 (.int .i64 1)) fun v13=>
 N0 x1 v13 S))
 (b7 (i5 1 x1) fun v14=>
 b7 (b8 S v14) fun v15=>
 b7 (J3 v15) fun v16=>
 b7 (i6 .gtr v16 (.int .i64 65536)) fun v17=>
 Q v17 S)
theorem c1G{N0:D→D→b9→Prop}{Q:D→b9→Prop}{x1 x3:D}{S:b9}(h:a8M E w0 x N0 Q x1 x3 S):
  j0 Tryz.prog E w0 x a9M (j9 23 [1,3] [x1,x3]) S (q8 (fun T S=>N0 (T.getD 1 d9) (T.getD 3 d9) S) (a9f E w0 x Q)):=j3 b1e b0V m7 (by kernel_rfl) h
theorem c1I(I:Nat→D→D→b9→Prop)
  (step:∀n x1 x3 S,I n x1 x3 S→a8M E w0 x (fun x1 x3 S=>∃m,m<n∧I m x1 x3 S) Q x1 x3 S)
  {n:Nat} {x1 x3:D} {S:b9} (h:I n x1 x3 S):j0 Tryz.prog E w0 x (.loop a9M) (j9 23 [1,3] [x1,x3]) S (a9f E w0 x Q):=
 o3 (k:=23) (n:=n) (I:=fun n T S=>I n (T.getD 1 d9) (T.getD 3 d9) S) (fun n T S hl hI=>o5 [1,3] hl (j0.mono (c1G (step n _ _ S hI)) fun ex T' S' _ hq=>by cases ex<;>exact hq)) (l8 ..) (Eq.mp (by kernel_rfl) h)
def c0E(E:j6)(w0:World)(x:Bool)(Q:D→b9→Prop)(a0:D)(S:b9):Prop:=
 b7 (q6 a0) fun cs=>m8 S cs fun v0 S1=>
 j0 Tryz.prog E w0 x (.loop a9M) (j9 23 [1,3] [v0,(.int .i64 0)]) S1 (a9f E w0 x Q)
theorem c5L{a0:D}{S:b9}(h:c0E E w0 x (i9 E Q) a0 S):o9 Tryz.prog E w0 x b3E [a0] S Q:=
 l7 b1e b0V (fn:=Tryz.f28) (c:=Tryz.f28.body.getD .skip) m7 Tryz.func28 (by kernel_rfl) (by kernel_rfl) h
def a1X:List (Nat×List Nat):=[(8,[2,3,5])]
def a1Z:List (Nat×List Nat):=[]
noncomputable def a4y:Code:=(j4 [1,0,1,0,1,0,0,1,0,0] (Tryz.f29.body.getD .skip))
def a3U(E:j6)(w0:World)(x:Bool)(Q:D→b9→Prop):o6→List D→b9→Prop:=
 (o8 1 (w6 Tryz.prog E w0 x a1X a1Z (j4 [1,0,1,0,1,0,1] (Tryz.f29.body.getD .skip)) (o8 0 (w6 Tryz.prog E w0 x a1X a1Z (j4 [1,1] (Tryz.f29.body.getD .skip)) (z7 Tryz.prog Tryz.f29 Q)))))
def a3Z(E:j6)(w0:World)(x:Bool)(N0:D→D→D→b9→Prop)(Q:D→b9→Prop)(x2 x3 x5:D)(S:b9):Prop:=
 b7 (i5 2 x3) fun v7=>
 b7 (b8 S v7) fun v8=>
 b7 (l9 v8) fun v9=>
 b7 (i6 .lss x5 v9) fun v10=>
 j1 v10
 (b7 (j2 S 3 x2) fun v11=>(True)∧
 b7 (i5 2 x3) fun v12=>
 b7 (b8 S v12) fun v13=>(True)∧
 b7 (p6 2 v13 x5) fun v14=>
 b7 (i5 1 v14) fun v15=>
 b7 (b8 S v15) fun v16=>(True)∧
 DF E (J6 Tryz.prog E w0) a0P [v11,v16] S fun v17 S18=>(True)∧
 b7 (unD .not v17) fun v19=>
 j1 v19
 (Q (.bool false) S18)
 (b7 (i6 .add x5 (.int .i64 1)) fun v20=>
 N0 x2 x3 v20 S18))
 (b7 (i5 3 x3) fun v21=>
 b7 (b8 S v21) fun v22=>
 b7 (i6 .eql v22 (.int .i64 0)) fun v23=>
 b7 (i4 (i0 v23 true) (i5 4 x3)) fun v24=>
 b7 (i4 (i0 v23 true) (b8 S v24)) fun v25=>
 b7 (i4 (i0 v23 true) (i6 .eql v25 (.int .i64 0))) fun v26=>
 b7 (o7 v23 v26 (.bool false)) fun v27=>
 Q v27 S)
theorem b7g{N0:D→D→D→b9→Prop}{Q:D→b9→Prop}{x2 x3 x5:D}{S:b9}(h:a3Z E w0 x N0 Q x2 x3 x5 S):
  j0 Tryz.prog E w0 x a4y (j9 83 [2,3,5] [x2,x3,x5]) S (q8 (fun T S=>N0 (T.getD 2 d9) (T.getD 3 d9) (T.getD 5 d9) S) (a3U E w0 x Q)):=j3 a1X a1Z m7 (by kernel_rfl) h
theorem b6N(I:Nat→D→D→D→b9→Prop)
  (step:∀n x2 x3 x5 S,I n x2 x3 x5 S→a3Z E w0 x (fun x2 x3 x5 S=>∃m,m<n∧I m x2 x3 x5 S) Q x2 x3 x5 S)
  {n:Nat} {x2 x3 x5:D} {S:b9} (h:I n x2 x3 x5 S):j0 Tryz.prog E w0 x (.loop a4y) (j9 83 [2,3,5] [x2,x3,x5]) S (a3U E w0 x Q):=
 o3 (k:=83) (n:=n) (I:=fun n T S=>I n (T.getD 2 d9) (T.getD 3 d9) (T.getD 5 d9) S) (fun n T S hl hI=>o5 [2,3,5] hl (j0.mono (b7g (step n _ _ _ S hI)) fun ex T' S' _ hq=>by cases ex<;>exact hq)) (l8 ..) (Eq.mp (by kernel_rfl) h)
def b4o(E:j6)(w0:World)(x:Bool)(Q:D→b9→Prop)(a0 a1:D)(S:b9):Prop:=
 b7 (q6 a0) fun cs=>m8 S cs fun v0 S1=>
 b7 (q6 a1) fun cs=>m8 S1 cs fun v2 S3=>
 b7 (i5 0 v2) fun v4=>
 b7 (b8 S3 v4) fun v5=>
 b7 (i6 .eql v5 (.int .u8 6)) fun v6=>
 j1 v6
 (j0 Tryz.prog E w0 x (.loop a4y) (j9 83 [2,3,5] [v0,v2,(.int .i64 0)]) S3 (a3U E w0 x Q))
 (b7 (i6 .eql v5 (.int .u8 7)) fun v28=>
 j1 v28
 (b7 (i5 1 v2) fun v29=>
 b7 (b8 S3 v29) fun v30=>
 b7 (a3I .eql v30 (.str [])) fun v31=>
 b7 (i4 (i0 v31 true) (i5 2 v2)) fun v32=>
 b7 (i4 (i0 v31 true) (b8 S3 v32)) fun v33=>
 b7 (i4 (i0 v31 true) (l9 v33)) fun v34=>
 b7 (i4 (i0 v31 true) (i6 .eql v34 (.int .i64 0))) fun v35=>
 b7 (o7 v31 v35 (.bool false)) fun v36=>
 b7 (i4 (i0 v36 true) (j2 S3 3 v0)) fun v37=>
 b7 (i4 (i0 v36 true) (i5 3 v2)) fun v38=>
 b7 (i4 (i0 v36 true) (b8 S3 v38)) fun v39=>
 F7 (i0 v36 true) (fun K=>o9 Tryz.prog E w0 x a0P [v37,v39] S3 K) S3 fun v40 S41=>
 b7 (o7 v36 v40 (.bool false)) fun v42=>
 b7 (i4 (i0 v42 true) (i5 4 v2)) fun v43=>
 b7 (i4 (i0 v42 true) (b8 S41 v43)) fun v44=>
 b7 (i4 (i0 v42 true) (i6 .geq v44 (.int .i64 0))) fun v45=>
 b7 (o7 v42 v45 (.bool false)) fun v46=>
 b7 (i4 (i0 v46 true) (i5 4 v2)) fun v47=>
 b7 (i4 (i0 v46 true) (b8 S41 v47)) fun v48=>
 b7 (i4 (i0 v46 true) (i6 .leq v48 (.int .i64 65536))) fun v49=>
 b7 (o7 v46 v49 (.bool false)) fun v50=>
 Q v50 S41)
 (b7 (i6 .eql v5 (.int .u8 8)) fun v51=>
 j1 v51
 (b7 (i5 1 v2) fun v52=>
 b7 (b8 S3 v52) fun v53=>
 b7 (a3I .eql v53 (.str [])) fun v54=>
 b7 (i4 (i0 v54 true) (i5 2 v2)) fun v55=>
 b7 (i4 (i0 v54 true) (b8 S3 v55)) fun v56=>
 b7 (i4 (i0 v54 true) (l9 v56)) fun v57=>
 b7 (i4 (i0 v54 true) (i6 .eql v57 (.int .i64 0))) fun v58=>
 b7 (o7 v54 v58 (.bool false)) fun v59=>
 b7 (i4 (i0 v59 true) (j2 S3 3 v0)) fun v60=>
 b7 (i4 (i0 v59 true) (i5 3 v2)) fun v61=>
 b7 (i4 (i0 v59 true) (b8 S3 v61)) fun v62=>
 F7 (i0 v59 true) (fun K=>o9 Tryz.prog E w0 x a0P [v60,v62] S3 K) S3 fun v63 S64=>
 b7 (o7 v59 v63 (.bool false)) fun v65=>
 b7 (i4 (i0 v65 true) (i5 4 v2)) fun v66=>
 b7 (i4 (i0 v65 true) (b8 S64 v66)) fun v67=>
 b7 (i4 (i0 v65 true) (i6 .eql v67 (.int .i64 0))) fun v68=>
 b7 (o7 v65 v68 (.bool false)) fun v69=>
 Q v69 S64)
 (Q (.bool false) S3)))
theorem b8Z{a0 a1:D}{S:b9}(h:b4o E w0 x (i9 E Q) a0 a1 S):o9 Tryz.prog E w0 x a2H [a0,a1] S Q:=
 l7 a1X a1Z (fn:=Tryz.f29) (c:=Tryz.f29.body.getD .skip) m7 Tryz.func29 (by kernel_rfl) (by kernel_rfl) h
def c7u:List (Nat×List Nat):=[]
def c9H:List (Nat×List Nat):=[]
def b8n(E:j6)(w0:World)(x:Bool)(Q:D→b9→Prop)(a0:D)(S:b9):Prop:=
 b7 (E7 .u64 a0) fun v0=>
 o9 Tryz.prog E w0 x a6i [v0] S fun v1 S2=>
 b7 (l9 v1) fun v3=>
 Q v3 S2
theorem c2M{a0:D}{S:b9}(h:b8n E w0 x (i9 E Q) a0 S):o9 Tryz.prog E w0 x u4 [a0] S Q:=
 l7 c7u c9H (fn:=Tryz.f58) (c:=Tryz.f58.body.getD .skip) m7 Tryz.func58 (by kernel_rfl) (by kernel_rfl) h
end Go.Proofs.YtchnpgddpaonhaaGreat.d
end
