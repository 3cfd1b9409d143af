/- A part of the proof of ImageWrites. -/
import Derived.Test.YtchnpgddpaonhaaGreatWap
set_option linter.unusedVariables false
set_option linter.unusedSimpArgs false
set_option maxRecDepth 100000
section
namespace Go.Am
section
variable{P:Program}{E:j6}{w0:World}{x:Bool}
@[simp] theorem oD{α:Type}(a:α)(Q:α→Prop):b7 (some a) Q=Q a:=(rfl)
@[simp] theorem cdT(a b:Prop):j1 (.bool true) a b=a:=(rfl)
@[simp] theorem cdF(a b:Prop):j1 (.bool false) a b=b:=(rfl)
theorem cdB(t:Bool)(a b:Prop):j1 (.bool t) a b↔(t=true→a)∧(t=false→b):=by cases t<;>simp
theorem B3(p:Prop)[Decidable p](a b:Prop):j1 (.bool (decide p)) a b↔(p→a)∧(¬p→b):=by
 by_cases h:p<;>simp[h]
@[simp] theorem gdT(s:(D→b9→Prop)→Prop)(S:b9)(Q:D→b9→Prop):F7 (some true) s S Q=s Q:=(rfl)
@[simp] theorem gdF(s:(D→b9→Prop)→Prop)(S:b9)(Q:D→b9→Prop):F7 (some false) s S Q=Q d9 S:=(rfl)
@[simp] theorem P7(r:Option D):i4 (some true) r=r:=(rfl)
@[simp] theorem vdF(r:Option D):i4 (some false) r=some d9:=(rfl)
@[simp] theorem C5(b w:Bool):i0 (.bool b) w=some (b==w):=(rfl)
@[simp] theorem wdU(w:Bool):i0 d9 w=some false:=(rfl)
@[simp] theorem C3(t:Bool)(a b:D):o7 (.bool t) a b=some (if t then a else b):=(rfl)
@[simp] theorem exD(vs:List D)(i:Nat):o4 (.tup vs) i=vs[i]? :=(rfl)
@[simp] theorem ndP(k i:Nat):a1v (.ptr k i)=some (.ptr k i):=(rfl)
@[simp] theorem ndR(k r i sz:Nat):a1v (.rel k r i sz)=some (.rel k r i sz):=(rfl)
@[simp] theorem ndE(row:List D)(i:Nat):a1v (.elt row i)=some (.elt row i):=(rfl)
@[simp] theorem ndF(f:FuncId)(a b:List D):a1v (.fn (.func f) a b)=some (.fn (.func f) a b):=(rfl)
@[simp] theorem ndI(t:TypeId)(v:D):a1v (.ifc t v)=some (.ifc t v):=(rfl)
@[simp] theorem u5(k i o:Nat):i5 o (.ptr k i)=some (.ptr k (i+o)):=(rfl)
@[simp] theorem ofR(k r i sz o:Nat):i5 o (.rel k r i sz)=some (.rel k r (i+o) sz):=(rfl)
@[simp] theorem ofE(row:List D)(i o:Nat):i5 o (.elt row i)=some (.elt row (i+o)):=(rfl)
@[simp] theorem paA(off n:Nat)(cs:List D):d2A off n (.agg cs)=some (.agg ((cs.drop off).take n)):=(rfl)
@[simp] theorem psA(off:Nat)(cs:List D):d2l off (.agg cs)=cs[off]? :=(rfl)
@[simp] theorem lnN:l9 .nilSlc=some (.int .i64 0):=(rfl)
@[simp] theorem lnL(rows:List (List D))(sz:Nat):l9 (.lst rows sz)=some (.int .i64 rows.length):=(rfl)
@[simp] theorem lnE(rows more:List (List D))(sz:Nat):l9 (.ext rows more sz)=some (.int .i64 rows.length):=(rfl)
@[simp] theorem lnR(k i len cap:Nat)(ex:Bool)(sz:Nat):l9 (.raw k i len cap ex sz)=some (.int .i64 len):=(rfl)
@[simp] theorem lnS(s:List UInt8):J3 (.str s)=some (.int .i64 s.length):=(rfl)
@[simp] theorem cvI(k k':IntKind)(n:Int):E7 k (.int k' n)=some (.int k (k.wrap n)):=(rfl)
@[simp] theorem cvS(s:List UInt8):d1U (.str s)=some (.str s):=(rfl)
@[simp] theorem unN(b:Bool):unD .not (.bool b)=some (.bool !b):=(rfl)
@[simp] theorem unM(k:IntKind)(n:Int):unD .neg (.int k n)=some (.int k (k.wrap (0 - n))):=(rfl)
@[simp] theorem s8(k:IntKind)(a b:Int):i6 .add (.int k a) (.int k b)=some (.int k (k.wrap (a+b))):=by simp[i6,R3,a0J]
@[simp] theorem a4S(k:IntKind)(a b:Int):i6 .sub (.int k a) (.int k b)=some (.int k (k.wrap (a - b))):=by simp[i6,R3,a0J]
@[simp] theorem d0Q(k:IntKind)(a b:Int):i6 .mul (.int k a) (.int k b)=some (.int k (k.wrap (a*b))):=by simp[i6,R3,a0J]
@[simp] theorem Y4(k:IntKind)(a b:Int):i6 .eql (.int k a) (.int k b)=some (.bool (a==b)):=by simp[i6,R3,a0J]
@[simp] theorem b7I(k:IntKind)(a b:Int):i6 .neq (.int k a) (.int k b)=some (.bool (a != b)):=by simp[i6,R3,a0J]
@[simp] theorem A5(k:IntKind)(a b:Int):i6 .lss (.int k a) (.int k b)=some (.bool (decide (a<b))):=by simp[i6,R3,a0J]
@[simp] theorem c5w(k:IntKind)(a b:Int):i6 .leq (.int k a) (.int k b)=some (.bool (decide (a≤b))):=by simp[i6,R3,a0J]
@[simp] theorem a4I(k:IntKind)(a b:Int):i6 .gtr (.int k a) (.int k b)=some (.bool (decide (a>b))):=by simp[i6,R3,a0J]
@[simp] theorem a3H(k:IntKind)(a b:Int):i6 .geq (.int k a) (.int k b)=some (.bool (decide (a≥b))):=by simp[i6,R3,a0J]
@[simp] theorem d7d(k:IntKind)(a b:Int):i6 .and (.int k a) (.int k b)=some (.int k (k.wrap (BitVec.ofInt k.bits a &&& BitVec.ofInt k.bits b).toNat)):=by simp[i6,R3,a0J]
@[simp] theorem e2A(k:IntKind)(a b:Int):i6 .or (.int k a) (.int k b)=some (.int k (k.wrap (BitVec.ofInt k.bits a ||| BitVec.ofInt k.bits b).toNat)):=by simp[i6,R3,a0J]
@[simp] theorem d8Q(k:IntKind)(a b:Int):i6 .xor (.int k a) (.int k b)=some (.int k (k.wrap (BitVec.ofInt k.bits a ^^^ BitVec.ofInt k.bits b).toNat)):=by simp[i6,R3,a0J]
theorem d6p(k k':IntKind)(a:Int)(b:Int)(h:0≤b):i6 .shl (.int k a) (.int k' b)=some (.int k (k.wrap (a*2^(min b.toNat k.bits)))):=by simp only[i6];rw[if_neg (by omega)]
theorem c7v(k k':IntKind)(a:Int)(b:Int)(h:0≤b):i6 .shr (.int k a) (.int k' b)=some (.int k (a.fdiv (2^(min b.toNat k.bits)))):=by simp only[i6];rw[if_neg (by omega)]
theorem e2f(k:IntKind)(a b:Int)(h:b≠0):i6 .quo (.int k a) (.int k b)=some (.int k (k.wrap (a.tdiv b))):=by simp[i6,R3,a0J,h]
theorem e2a(k:IntKind)(a b:Int)(h:b≠0):i6 .rem (.int k a) (.int k b)=some (.int k (a.tmod b)):=by simp[i6,R3,a0J,h]
@[simp] theorem e3t(a b:List UInt8):a3I .add (.str a) (.str b)=if((a.length+b.length:Nat):Int)≤IntKind.i64.max then some (.str (a++b)) else none:=by
 simp only[a3I,b0D];split<;>rfl
@[simp] theorem d5q(a b:List UInt8):a3I .eql (.str a) (.str b)=some (.bool (a==b)):=(rfl)
@[simp] theorem d7s(a b:List UInt8):a3I .neq (.str a) (.str b)=some (.bool !(a==b)):=(rfl)
@[simp] theorem eqE(b:Bool):c2O .eql (some b)=some (.bool b):=(rfl)
@[simp] theorem eqN(b:Bool):c2O .neq (some b)=some (.bool !b):=(rfl)
@[simp] theorem e3u(a b:Bool):e0Y (.bool a) (.bool b)=some (a==b):=(rfl)
@[simp] theorem clB(b:Bool):q6 (.bool b)=some [.bool b]:=(rfl)
@[simp] theorem clI(k:IntKind)(n:Int):q6 (.int k n)=some [.int k n]:=(rfl)
@[simp] theorem clS(s:List UInt8):q6 (.str s)=some [.str s]:=(rfl)
@[simp] theorem clN:q6 .nilSlc=some [.nilSlc]:=(rfl)
@[simp] theorem clP:q6 .nilPtr=some [.nilPtr]:=(rfl)
@[simp] theorem clF:q6 .nilFn=some [.nilFn]:=(rfl)
@[simp] theorem clL(rows:List (List D))(sz:Nat):q6 (.lst rows sz)=some [.lst rows sz]:=(rfl)
@[simp] theorem clE(rows more:List (List D))(sz:Nat):q6 (.ext rows more sz)=some [.ext rows more sz]:=(rfl)
@[simp] theorem clR(k i len cap:Nat)(ex:Bool)(sz:Nat):q6 (.raw k i len cap ex sz)=some [.raw k i len cap ex sz]:=(rfl)
@[simp] theorem J5(cs:List D):q6 (.agg cs)=some cs:=(rfl)
@[simp] theorem e3D(k i:Nat):q6 (.ptr k i)=some [.ptr k i]:=(rfl)
@[simp] theorem e3y(f:Fn)(a b:List D):q6 (.fn f a b)=some [.fn f a b]:=(rfl)
@[simp] theorem e3v(t:TypeId)(v:D):q6 (.ifc t v)=some [.ifc t v]:=(rfl)
@[simp] theorem agS(cs:List D):B8 (some cs)=some (.agg cs):=(rfl)
@[simp] theorem fiN(cs:List D):s5 cs []=some cs:=(rfl)
@[simp] theorem frN(sz:Nat)(rows:List (List D)):m9 sz rows []=some rows:=(rfl)
@[simp] theorem lsE(row:List D)(i:Nat)(S:b9):b8 S (.elt row i)=row[i]? :=(rfl)
@[simp] theorem laE(row:List D)(i n:Nat)(S:b9):j2 S n (.elt row i)=if 0<n∧i+n≤row.length then some (.agg ((row.drop i).take n)) else none:=(rfl)
@[simp] theorem mxD(k:IntKind)(a b:Int):c1u true [.int k a, .int k b]=some (.int k (if b>a then b else a)):=(rfl)
@[simp] theorem mnD(k:IntKind)(a b:Int):c1u false [.int k a, .int k b]=some (.int k (if b<a then b else a)):=(rfl)
theorem fwE(row:List D)(i:Nat)(S S':b9):p7 (.elt row i) S S'=True:=(rfl)
theorem fwP(k i:Nat)(S S':b9):p7 (.ptr k i) S S'=(S' k=S k):=(rfl)
theorem b9k{rows:List (List D)}{sz i:Nat}{row:List D}(h:rows[i]? =some row):p6 sz (.lst rows sz) (.int .i64 (i:Int))=some (.elt row 0):=by
 simp only[p6]
 rw[if_pos ⟨by trivial,by omega⟩,Int.toNat_natCast,h]
theorem e2F{rows more:List (List D)}{sz i:Nat}{row:List D}(h:rows[i]? =some row):p6 sz (.ext rows more sz) (.int .i64 (i:Int))=some (.elt row 0):=by
 simp only[p6]
 rw[if_pos ⟨by trivial,by omega⟩,Int.toNat_natCast,h]
theorem e0Q{k i len cap sz j:Nat}{ex:Bool}(h:j<len):p6 sz (.raw k i len cap ex sz) (.int .i64 (j:Int))=some (.rel k (i+j) 0 sz):=by
 simp only[p6]
 rw[if_pos ⟨by trivial,by omega,by omega⟩,Int.toNat_natCast]
theorem c8J{s:List UInt8}{i:Nat}{b:UInt8}(h:s[i]? =some b):d2q (.str s) (.int .i64 (i:Int))=some (.int .u8 b.toNat):=by
 simp only[d2q]
 rw[if_pos (by omega),Int.toNat_natCast,h]
theorem b9.fresh{S:b9}{j k:Nat}{o:K8}(h:(S.set j o) k=Option.none):k≠j∧S k=Option.none:=by
 unfold b9.set at h
 split at h
 ·cases h
 ·rename_i e;exact⟨e,h⟩
theorem d1a{S:b9}{k i sz:Nat}{cs:List D}{acs:List AV}(h:S k=some ⟨sz,[cs],acs⟩):c4K S (.ptr k i)=some (cs,i):=by
 simp only[c4K,h]
theorem d7E{S:b9}{k r i sz:Nat}{rows:List (List D)}{row:List D}{acs:List AV}(h:S k=some ⟨sz,rows,acs⟩)(hr:rows[r]? =some row):c4K S (.rel k r i sz)=some (row,i):=by
 simp only[c4K,h,hr];rfl
theorem D5{S:b9}{k i sz:Nat}{cs:List D}{acs:List AV}(h:S k=some ⟨sz,[cs],acs⟩):b8 S (.ptr k i)=cs[i]? :=by simp only[b8,d1a h]
theorem laP{S:b9}{k i n sz:Nat}{cs:List D}{acs:List AV}(h:S k=some ⟨sz,[cs],acs⟩)(hn:0<n∧i+n≤cs.length):j2 S n (.ptr k i)=some (.agg ((cs.drop i).take n)):=by
 simp only[j2,d1a h];rw[if_pos hn]
theorem ldR{S:b9}{k r i sz:Nat}{rows:List (List D)}{row:List D}{acs:List AV}(h:S k=some ⟨sz,rows,acs⟩)(hr:rows[r]? =some row):b8 S (.rel k r i sz)=row[i]? :=by simp only[b8,d7E h hr]
theorem stP{S:b9}{k i n sz:Nat}{cs ds:List D}{acs:List AV}{v:D}{K:D→b9→Prop}(h:S k=some ⟨sz,[cs],acs⟩)(hv:q6 v=some ds)(hn:ds.length=n∧0<n∧i+n≤cs.length)
  (hK:∀acs,K d9 (S.set k ⟨sz,[o0 cs i ds],acs⟩)):j7 S n (.ptr k i) v K:=by
 simp only[j7,hv,h]
 rw[if_pos ⟨hn.1,hn.2.1⟩,if_pos hn.2.2]
 exact hK
theorem stR{S:b9}{k r i n sz:Nat}{rows:List (List D)}{row ds:List D}{acs:List AV}{v:D}{K:D→b9→Prop}(h:S k=some ⟨sz,rows,acs⟩)(hr:rows[r]? =some row)(hv:q6 v=some ds)(hn:ds.length=n∧0<n∧i+n≤row.length)
  (hK:∀acs,K d9 (S.set k ⟨sz,rows.set r (o0 row i ds),acs⟩)):j7 S n (.rel k r i sz) v K:=by
 simp only[j7,hv,h,hr]
 rw[if_pos ⟨hn.1,hn.2.1⟩,if_pos (by trivial),if_pos hn.2.2]
 exact hK
theorem b9.set_in(S:b9){k l:Nat}(h:k≠l)(a b c:K8):((S.set k a).set l b).set k c=(S.set k c).set l b:=by
 rw[b9.set_comm S h,b9.set_set,b9.set_comm S h]
theorem b9.le_new{S:b9}{k:Nat}{o:K8}(h:S k=Option.none):S.le (S.set k o):=b9.le_set (b9.le_refl S) h
def y9(l:List D):List (List D):=l.map fun d=>[d]
@[simp] theorem W0(l:List D):(y9 l).length=l.length:=List.length_map _
theorem b5s{l:List D}{i:Nat}{d:D}(h:l[i]? =some d):(y9 l)[i]? =some [d]:=by simp only[y9,List.getElem?_map,h];rfl
def Grw(S0:b9)(t:D)(rows:List (List D))(sz:Nat)(S:b9):Prop:=
 (t= .nilSlc∧rows=[]∧S=S0)∨∃k acs,S0 k=Option.none∧t= .raw k 0 rows.length rows.length false sz∧S=S0.set k ⟨sz,rows,acs⟩
theorem Grw.nil(S:b9)(sz:Nat):Grw S .nilSlc [] sz S:= .inl ⟨rfl,rfl,rfl⟩
theorem Grw.le{S0 S:b9}{t:D}{rows:List (List D)}{sz:Nat}(h:Grw S0 t rows sz S):S0.le S:=by
 rcases h with ⟨_,_,rfl⟩|⟨k,acs,h,_,rfl⟩
 ·exact b9.le_refl _
 ·exact b9.le_new h
theorem Grw.len{S0 S:b9}{t:D}{rows:List (List D)}{sz:Nat}(h:Grw S0 t rows sz S):l9 t=some (.int .i64 rows.length):=by
 rcases h with ⟨rfl,rfl,rfl⟩|⟨k,acs,h,rfl,rfl⟩<;>rfl
theorem Grw.push{S0 S:b9}{t:D}{rows:List (List D)}{sz bytes:Nat}(h:Grw S0 t rows sz S){v:D}{news:List (List D)}(hv:rowsS S sz v=some news)(hb:0<bytes∧(2*(rows.length+news.length)+768)*bytes≤2^47){K:D→b9→Prop}
  (hK:∀t' S',Grw S0 t' (rows++news) sz S'→K t' S'):r6 S sz bytes t v K:=by
 simp only[r6,hv]
 rcases h with ⟨rfl,rfl,rfl⟩|⟨k,acs,h,rfl,rfl⟩
 ·simp only[a7T]
  by_cases hn:news=[]
  ·rw[if_pos hn]
   exact hK _ _ (.inl ⟨rfl,by rw[hn];rfl,rfl⟩)
  ·rw[if_neg hn]
   refine⟨⟨hb.1,by simpa using hb.2⟩, .inr fun k acs hk=>hK _ _ (.inr ⟨k,acs,hk, ?_, ?_⟩)⟩<;>simp
 ·simp only[a7T]
  by_cases hn:news=[]
  ·rw[if_pos hn]
   refine hK _ _ (.inr ⟨k,acs,h, ?_, ?_⟩)<;>simp[hn]
  ·rw[if_neg hn,b9.set_same]
   simp only
   rw[if_pos ⟨by trivial,by trivial,by omega⟩]
   refine⟨hb, .inr fun k' acs' hk'=> ?_⟩
   rw[b9.erase_set _ _ _ h]at hk' ⊢
   refine hK _ _ (.inr ⟨k',acs',hk', ?_, ?_⟩)<;>simp
theorem Grw.swap{S0 S1 S:b9}{t u:D}{r q:List (List D)}{s z:Nat}(h:Grw S0 t r s S1)(h':Grw S1 u q z S):∃S2,Grw S0 u q z S2∧Grw S2 t r s S:=by
 rcases h with ⟨rfl,rfl,rfl⟩|⟨k,acs,hk,rfl,rfl⟩
 ·exact⟨S,h', .inl ⟨rfl,rfl,rfl⟩⟩
 ·rcases h' with ⟨rfl,rfl,rfl⟩|⟨l,bcs,hl,rfl,rfl⟩
  ·exact⟨S0, .inl ⟨rfl,rfl,rfl⟩, .inr ⟨k,acs,hk,rfl,rfl⟩⟩
  ·obtain⟨hne,hl0⟩:=b9.fresh hl
   refine⟨S0.set l ⟨z,q,bcs⟩, .inr ⟨l,bcs,hl0,rfl,rfl⟩, .inr ⟨k,acs, ?_,rfl, ?_⟩⟩
   ·rw[b9.set_ne _ _ _ (Ne.symm hne)];exact hk
   ·exact b9.set_comm _ (Ne.symm hne) _ _
theorem Grw.fin{S0 S:b9}{t:D}{rows:List (List D)}{sz:Nat}(h:Grw S0 t rows sz S){Q:D→b9→Prop}(hq:i9 E Q (.lst rows sz) S0):i9 E Q t S:=by
 rcases h with ⟨rfl,rfl,rfl⟩|⟨k,acs,h,rfl,rfl⟩
 ·exact i9.nil hq
 ·refine i9.freeze (b9.set_same _ _ _) rfl (by simp) (Nat.le_refl _) ?_
  rw[b9.erase_set _ _ _ h]
  simpa using hq
theorem Grw.finT{S0 S:b9}{t:D}{rows:List (List D)}{sz:Nat}(h:Grw S0 t rows sz S){Q:D→b9→Prop}{lp lq:List D}(hq:i9 E Q (.tup (lp++ .lst rows sz::lq)) S0):i9 E Q (.tup (lp++t::lq)) S:=by
 rcases h with ⟨rfl,rfl,rfl⟩|⟨k,acs,h,rfl,rfl⟩
 ·exact i9.nilT hq
 ·refine i9.freezeT (b9.set_same _ _ _) rfl (by simp) (Nat.le_refl _) ?_
  rw[b9.erase_set _ _ _ h]
  simpa using hq
theorem Grw.under{S0 S:b9}{t:D}{rows:List (List D)}{sz:Nat}(h:Grw S0 t rows sz S){k:Nat}{o:K8}(hk:S k=Option.none):Grw (S0.set k o) t rows sz (S.set k o):=by
 rcases h with ⟨rfl,rfl,rfl⟩|⟨l,acs,h,rfl,rfl⟩
 ·exact .inl ⟨rfl,rfl,rfl⟩
 ·obtain⟨hne,hk0⟩:=b9.fresh hk
  refine .inr ⟨l,acs, ?_,rfl,b9.set_comm _ (Ne.symm hne) _ _⟩
  rw[b9.set_ne _ _ _ (Ne.symm hne)];exact h
theorem Grw.drop{S0 S:b9}{t:D}{rows:List (List D)}{sz k:Nat}{o:K8}(h:Grw (S0.set k o) t rows sz S)(hk:S0 k=Option.none):∃S',S'.le S∧Grw S0 t rows sz S':=by
 rcases h with ⟨rfl,rfl,rfl⟩|⟨l,acs,h,rfl,rfl⟩
 ·exact⟨S0,b9.le_new hk, .inl ⟨rfl,rfl,rfl⟩⟩
 ·obtain⟨hne,hl0⟩:=b9.fresh h
  refine⟨S0.set l ⟨sz,rows,acs⟩, ?_, .inr ⟨l,acs,hl0,rfl,rfl⟩⟩
  rw[b9.set_comm _ (Ne.symm hne)]
  refine b9.le_new ?_
  rw[b9.set_ne _ _ _ (Ne.symm hne)];exact hk
theorem Grw.base{S0 S1 S:b9}{t:D}{rows:List (List D)}{sz:Nat}(h:Grw S1 t rows sz S)(hle:S0.le S1):∃S',S'.le S∧Grw S0 t rows sz S':=by
 rcases h with ⟨rfl,rfl,rfl⟩|⟨l,acs,h,rfl,rfl⟩
 ·exact⟨S0,hle, .inl ⟨rfl,rfl,rfl⟩⟩
 ·have hl:S0 l=Option.none:=by
   cases e:S0 l with
   |none=>rfl
   |some o=>rw[hle _ _ e]at h;cases h
  refine⟨S0.set l ⟨sz,rows,acs⟩,fun j o e=> ?_, .inr ⟨l,acs,hl,rfl,rfl⟩⟩
  unfold b9.set at e ⊢
  split at e
  ·rename_i hj;rw[if_pos hj];exact e
  ·rename_i hj;rw[if_neg hj];exact hle _ _ e
theorem e2t{S:b9}{sz bytes:Nat}{z:List D}{n:Nat}{K:D→b9→Prop}(hb:bytes*n≤2^47∧n<2^60)(hK:∀k acs,S k=Option.none→K (.raw k 0 n n true sz) (S.set k ⟨sz,List.replicate n z,acs⟩)):b8O S sz bytes z (.int .i64 (n:Int)) (.int .i64 (n:Int)) K:=by
 simp only[b8O]
 rw[if_pos ⟨by omega,by omega,by have:=hb.1;exact_mod_cast this,by omega⟩,Int.toNat_natCast]
 exact .inr hK
theorem F5{S:b9}{sz:Nat}{rows:List (List D)}{len:Nat}{K:D→b9→Prop}(hl:rows.length=len)(h:K (.lst rows sz) S):q7 S sz (some rows) len K:=by
 simp only[q7,oD]
 refine .inl ?_
 rw[List.take_of_length_le (by omega)]
 exact h
theorem d2v{S:b9}{sz:Nat}{rows:List (List D)}{len:Nat}{K:D→b9→Prop}(h:∀k acs,S k=Option.none→K (.raw k 0 len len true sz) (S.set k ⟨sz,rows,acs⟩)):q7 S sz (some rows) len K:=by
 simp only[q7,oD]
 exact .inr h
end
end Go.Am
end
section
namespace Go.Op
open Go.Am
def a1D(w:Int):Int:=if w=1 then -128 else if w=2 then -2147483648 else if w=3 then -9223372036854775808 else 1
def a1B(w:Int):Int:=if w=1 then 127 else if w=2 then 2147483647 else if w=3 then 9223372036854775807 else 0
def I64(n:Int):Prop:= -9223372036854775808≤n∧n≤9223372036854775807
def U2(w:Int):Int:=if w=1 then 8 else if w=2 then 32 else if w=3 then 64 else 0
def b8L(w n:Int):Int:=if w=1 then IntKind.i64.wrap (IntKind.i8.wrap n) else if w=2 then IntKind.i64.wrap (IntKind.i32.wrap n) else if w=3 then n else 0
theorem b0y(n:Int):IntKind.u8.wrap n=n % 256:=by
 simp only[IntKind.wrap,IntKind.bits,IntKind.signed];simp
theorem a2z(n:Int):IntKind.u64.wrap n=n % 18446744073709551616:=by
 simp only[IntKind.wrap,IntKind.bits,IntKind.signed];simp
def a2V(n:Int)(i:Nat):Int:=(n / 2^(8*i)) % 256
def F6(n:Int)(size:Nat):List Int:=(List.range size).map (a2V n)
theorem s7(n:Int)(s:Nat):(F6 n s).length=s:=by simp[F6]
structure Fld where
 size:Nat
 lo:Int
 hi:Int
 deriving DecidableEq
def fIx:Fld:=⟨2,0,65535⟩
def K2:Fld:=⟨4,0,4294967295⟩
def b0e:Fld:=⟨1,1,3⟩
def d5c(b:Bool)(op:Int):Option (List Fld):=
 if b then some [K2]else if op=52 then some [⟨1,0,255⟩]else if op=49 then some [b0e]
 else if 11≤op∧op≤28 then some [b0e]else if 1≤op∧op≤52 then some []else none
def d5h(b:Bool)(op:Int):Option (List Fld):=
 if b then some [⟨1,1,5⟩]else if op=29 then some [b0e,b0e]else d5c (op==46||op==47||op==48) op
def d5t(b:Bool)(op:Int):Option (List Fld):=if b then some [fIx,fIx]else d5h (op==23||op==24) op
def d3Y(b:Bool)(op:Int):Option (List Fld):=if b then some [fIx]else d5t (op==37||op==38) op
def lay(op:Int):Option (List Fld):=
 if op=1 then some [⟨1,a1D 1,a1B 1⟩]else if op=2 then some [⟨4,a1D 2,a1B 2⟩]else if op=3 then some [⟨8,a1D 3,a1B 3⟩]
 else d3Y (op==6||op==7||op==8||op==50||op==36||op==39||op==40||op==41||op==42||op==43||op==44||op==45) op
structure In where
 op:Int
 a:Int
 b:Int
 arms:List (Int×Int)
structure In.Ok (x:In):Prop where
 op:0≤x.op∧x.op≤255
 a:I64 x.a
 b:I64 x.b
 arms:∀y∈x.arms,I64 y.1∧I64 y.2
 short:x.arms.length<2^44
def Fld.may(f:Fld)(n:Int):Bool:=decide (f.lo≤n∧n≤f.hi)
def In.num(x:In)(i:Nat):Int:=if i=1 then x.b else x.a
def a6j(x:In):Nat→List Fld→List Int
 |_,[]=>[]
 |i,f::l=>F6 (x.num i) f.size++a6j x (i+1) l
def Y8(x:In):Nat→List Fld→Bool
 |_,[]=>true
 |i,f::l=>f.may (x.num i)&&Y8 x (i+1) l
def d9Y(y:Int×Int):List Int:=F6 y.1 8++F6 y.2 4
def b4z(w:Int)(y:Int×Int):Bool:=decide (a1D w≤y.1∧y.1≤a1B w)&&decide (0≤y.2∧y.2≤4294967295)
def isS(x:In):Bool:=
 (lay x.op).isSome&&Y8 x 0 ((lay x.op).getD [])&&
  if x.op=49 then decide (x.arms.length≤65535)&&x.arms.all (b4z (IntKind.u8.wrap x.a))&&decide (0≤x.b∧x.b≤4294967295)
  else decide (x.arms.length=0)&&(decide (2≤((lay x.op).getD []).length)||decide (x.b=0))&&(decide (1≤((lay x.op).getD []).length)||decide (x.a=0))
def a4U(arms:List (Int×Int)):List Int:=arms.flatMap d9Y
def b7X(x:In):List Int:=x.op::a6j x 0 ((lay x.op).getD [])++if x.op=49 then F6 x.arms.length 2++a4U x.arms++F6 x.b 4 else[]
def c0N(l:Option (List Fld)):Bool:=(l.getD []).all (fun f=>decide (1≤f.size∧f.size≤8))&&decide ((l.getD []).length≤2)
theorem d9q{c:Prop}[Decidable c]{a b:Option (List Fld)}(ha:c0N a=true)(hb:c0N b=true):c0N (if c then a else b)=true:=by
 by_cases h:c
 ·rw[if_pos h];exact ha
 ·rw[if_neg h];exact hb
theorem d9i(op:Int):c0N (lay op)=true:=by
 unfold lay d3Y d5t d5h d5c
 repeat' apply d9q
 all_goals rfl
theorem a8k{op:Int}:((lay op).getD []).length≤2:=by
 have h:=d9i op
 simp only[c0N,Bool.and_eq_true,List.all_eq_true,decide_eq_true_eq]at h
 exact h.2
theorem a3T:∀l:List (Int×Int),(a4U l).length=12*l.length
 | []=>rfl
 |y::l=>by
  have:=a3T l
  simp only[a4U,List.flatMap_cons,List.length_append,d9Y,s7,List.length_cons]at this ⊢
  omega
def leN:List Int→Nat
 | []=>0
 |b::l=>b.toNat+256*leN l
def Y9(b:Int):Prop:=0≤b∧b≤255
theorem d7r(n:Int)(s:Nat):F6 n (s+1)=a2V n 0::F6 (n / 256) s:=by
 unfold F6
 rw[List.range_succ_eq_map,List.map_cons,List.map_map]
 congr 1
 refine List.map_congr_left fun i _=> ?_
 simp only[Function.comp,a2V]
 rw[show 8*(i+1)=8+8*i by omega,Int.pow_add, ←Int.ediv_ediv_of_nonneg (by decide)]
 rfl
theorem d9k(n:Int)(s:Nat):∀b∈F6 n s,Y9 b:=by
 intro b hb
 obtain⟨i,_,rfl⟩:=List.mem_map.1 hb
 unfold a2V Y9
 omega
theorem d6m:∀(s:Nat) (n:Int),(leN (F6 n s):Int)=n % 2^(8*s)
 |0,n=>by simp[F6,leN,Int.emod_one]
 |s+1,n=>by
  have ih:=d6m s (n / 256)
  rw[d7r,leN]
  have hM:(0:Int)<2^(8*s):=Int.pow_pos (by decide)
  have hp:(2:Int)^(8*(s+1))=256*2^(8*s):=by rw[show 8*(s+1)=8+8*s by omega,Int.pow_add];rfl
  have hb:((a2V n 0).toNat:Int)=n % 256:=by
   have:a2V n 0=n % 256:=by simp[a2V]
   rw[this];omega
  rw[Int.natCast_add,Int.natCast_mul,ih,hb,hp]
  have h1:=Int.emod_nonneg (n / 256) (show(2:Int)^(8*s)≠0 by omega)
  have h2:=Int.emod_lt_of_pos (n / 256) hM
  have h3:=Int.mul_ediv_add_emod (n / 256) (2^(8*s))
  have h4:=Int.mul_ediv_add_emod n 256
  refine((Int.ediv_emod_unique (a:=n) (b:=256*2^(8*s)) (q:=n / 256 / 2^(8*s)) (by omega)).2 ⟨?_,by omega, ?_⟩).2.symm
  ·have:256*2^(8*s)*(n / 256 / 2^(8*s))=256*(2^(8*s)*(n / 256 / 2^(8*s))):=by rw[Int.mul_assoc]
   rw[this]
   omega
  ·omega
theorem d6P:∀ {l m:List Int},(∀b∈l,Y9 b)→(∀b∈m,Y9 b)→l.length=m.length→leN l=leN m→l=m
 | [],[],_,_,_,_=>rfl
 | [],b::m,_,_,h,_=>by simp at h
 |a::l,[],_,_,h,_=>by simp at h
 |a::l,b::m,hl,hm,h,e=>by
  obtain⟨a0,a1⟩:=hl a (by simp)
  obtain⟨b0,b1⟩:=hm b (by simp)
  simp only[leN]at e
  have hab:a=b:=by omega
  have hlm:leN l=leN m:=by omega
  rw[hab,d6P (fun x hx=>hl x (by simp[hx])) (fun x hx=>hm x (by simp[hx])) (by simpa using h) hlm]
theorem b6d:∀ {l:List Int},(∀b∈l,Y9 b)→leN l<2^(8*l.length)
 | [],_=>by simp[leN]
 |a::l,h=>by
  obtain⟨a0,a1⟩:=h a (by simp)
  have ih:=b6d (fun x hx=>h x (by simp[hx]):∀b∈l,Y9 b)
  have hp:2^(8*(l.length+1))=256*2^(8*l.length):=by rw[show 8*(l.length+1)=8+8*l.length by omega,Nat.pow_add]
  rw[leN,List.length_cons,hp]
  omega
def a8p(f:Fld):Prop:=1≤f.size∧((f.size≤7∧0≤f.lo∧f.hi<2^(8*f.size))∨(f.size≤7∧ -(2^(8*f.size - 1))≤f.lo∧f.hi<2^(8*f.size - 1))∨(f.size=8∧ -9223372036854775808≤f.lo∧f.hi≤9223372036854775807))
def rdN(f:Fld)(u:Nat):Option Int:=
 let n:=IntKind.i64.wrap (u:Int)
 let n':=if f.may n=false∧f.size<8 then n - 2^(8*f.size) else n
 if f.may n'=true then some n' else none
theorem d9M(z:Int):IntKind.i64.wrap z % 18446744073709551616=z % 18446744073709551616:=by
 simp only[IntKind.wrap,IntKind.bits,IntKind.signed];simp
 split<;>omega
theorem e0c{f:Fld}{u:Nat}{n:Int}(h:rdN f u=some n)(h8:f.size≤8):f.may n=true∧n % 2^(8*f.size)=(u:Int) % 2^(8*f.size):=by
 unfold rdN at h
 simp only at h
 obtain⟨n',hn'⟩:∃n',n'=if f.may (IntKind.i64.wrap (u:Int))=false∧f.size<8 then IntKind.i64.wrap (u:Int) - 2^(8*f.size) else IntKind.i64.wrap (u:Int):=⟨_,rfl⟩
 rw[←hn']at h
 have hw:IntKind.i64.wrap (u:Int) % 2^(8*f.size)=(u:Int) % 2^(8*f.size):=by
  have hd:((2:Int)^(8*f.size)) ∣ 18446744073709551616:=by
   refine⟨2^(64 - 8*f.size), ?_⟩
   rw[←Int.pow_add,show 8*f.size+(64 - 8*f.size)=64 by omega]
   rfl
  rw[←Int.emod_emod_of_dvd _ hd,d9M,Int.emod_emod_of_dvd _ hd]
 split at h
 ·rename_i hm
  cases h
  refine⟨hm, ?_⟩
  rw[hn']
  split
  ·rw[Int.sub_emod_right];exact hw
  ·exact hw
 ·cases h
def C2(bs:List Int)(f:Fld)(s:Nat×Int):Int×Nat×Int:=
 if s.2≠0 then(0,s.1,s.2) else if bs.length<s.1+f.size then(0,s.1,10) else
 match rdN f (leN ((bs.drop s.1).take f.size)) with
 |some n=>(n,s.1+f.size,0)
 |none=>(0,s.1,120)
theorem d1A{bs:List Int}{f:Fld}{s:Nat×Int}(h:s.2≠0):C2 bs f s=(0,s):=by
 unfold C2
 rw[if_pos h]
theorem e1s{bs:List Int}(hb:∀b∈bs,Y9 b){f:Fld}(h8:f.size≤8){at_:Nat}{n:Int}{at':Nat}(h:C2 bs f (at_,0)=(n,at',0)):f.may n=true∧at'=at_+f.size∧at'≤bs.length∧(bs.drop at_).take f.size=F6 n f.size:=by
 unfold C2 at h
 rw[if_neg (by simp)]at h
 split at h
 ·cases h
 rename_i hlen
 simp only at h hlen
 split at h
 ·rename_i m hm
  cases h
  obtain⟨g1,g2⟩:=e0c hm h8
  have hbs:∀b∈(bs.drop at_).take f.size,Y9 b:=fun b hb'=>hb b (List.mem_of_mem_drop (List.mem_of_mem_take hb'))
  have hl:((bs.drop at_).take f.size).length=f.size:=by rw[List.length_take,List.length_drop];omega
  refine⟨g1,rfl,by omega,d6P hbs (d9k _ _) (by rw[hl,s7]) ?_⟩
  have e1:=d6m f.size n
  have e2:=b6d hbs
  rw[hl]at e2
  have e3:((leN ((bs.drop at_).take f.size):Nat):Int)<2^(8*f.size):=by exact_mod_cast e2
  rw[g2,Int.emod_eq_of_lt (by omega) e3]at e1
  omega
 ·cases h
def vF(w:Int):Fld:=⟨8,a1D w,a1B w⟩
def E3(bs:List Int)(w:Int):Nat→Nat×Int→List (Int×Int)→List (Int×Int)×(Nat×Int)
 |0,s,acc=>(acc,s)
 |n+1,s,acc=>if s.2≠0 then(acc,s) else
  E3 bs w n (C2 bs K2 (C2 bs (vF w) s).2).2 (acc++[((C2 bs (vF w) s).1,(C2 bs K2 (C2 bs (vF w) s).2).1)])
def U8(bs:List Int):List Fld→Nat×Int→Int×Int×(Nat×Int)
 | [],s=>(0,0,s)
 | [f],s=>((C2 bs f s).1,0,(C2 bs f s).2)
 |f::g::_,s=>((C2 bs f s).1,(C2 bs g (C2 bs f s).2).1,(C2 bs g (C2 bs f s).2).2)
abbrev Dat:=Int×Int×Int×List (Int×Int)
def b0z(bs:List Int)(op a:Int)(s:Nat×Int):Dat×(Nat×Int):=
 ((op,a,(C2 bs K2 (E3 bs (IntKind.u8.wrap a) (C2 bs fIx s).1.toNat (C2 bs fIx s).2 []).2).1,(E3 bs (IntKind.u8.wrap a) (C2 bs fIx s).1.toNat (C2 bs fIx s).2 []).1),
  (C2 bs K2 (E3 bs (IntKind.u8.wrap a) (C2 bs fIx s).1.toNat (C2 bs fIx s).2 []).2).2)
def b2i(bs:List Int)(at_:Nat):Dat×(Nat×Int):=
 if bs.getD at_ 0=49 then b0z bs 49 (U8 bs ((lay (bs.getD at_ 0)).getD []) (at_+1,0)).1 (U8 bs ((lay (bs.getD at_ 0)).getD []) (at_+1,0)).2.2
 else((bs.getD at_ 0,(U8 bs ((lay (bs.getD at_ 0)).getD []) (at_+1,0)).1,(U8 bs ((lay (bs.getD at_ 0)).getD []) (at_+1,0)).2.1,[]),(U8 bs ((lay (bs.getD at_ 0)).getD []) (at_+1,0)).2.2)
def d0w:Dat:=(0,0,0,[])
def c2u(bs:List Int)(at_:Nat):Dat×(Nat×Int):=
 if lay (bs.getD at_ 0)=none then(d0w,(0,120)) else if(b2i bs at_).2.2≠0 then(d0w,(0,(b2i bs at_).2.2)) else b2i bs at_
def In.dat(x:In):Dat:=(x.op,x.a,x.b,x.arms)
theorem d7Z{c:Prop}[Decidable c]{a b:Option (List Fld)}(ha:∀f∈a.getD [],a8p f)(hb:∀f∈b.getD [],a8p f):∀f∈(if c then a else b).getD [],a8p f:=by
 by_cases h:c
 ·rw[if_pos h];exact ha
 ·rw[if_neg h];exact hb
theorem b7r(op:Int):∀f∈(lay op).getD [],a8p f:=by
 unfold lay d3Y d5t d5h d5c
 repeat' apply d7Z
 all_goals (intro f hf;simp only[Option.getD_some,Option.getD_none,List.mem_cons,List.not_mem_nil,or_false,or_self,false_or,fIx,K2,b0e]at hf)
 all_goals (subst hf)
 all_goals (first|exact⟨by decide, .inl ⟨by decide,by decide,by decide⟩⟩|exact⟨by decide, .inr (.inl ⟨by decide,by decide,by decide⟩)⟩|exact⟨by decide, .inr (.inr ⟨by decide,by decide,by decide⟩)⟩)
theorem b3A:a8p K2:=⟨by decide, .inl ⟨by decide,by decide,by decide⟩⟩
theorem d9o:a8p fIx:=⟨by decide, .inl ⟨by decide,by decide,by decide⟩⟩
theorem d6l(w:Int):a8p (vF w):=by
 refine⟨by show 1≤8;omega, .inr (.inr ⟨rfl, ?_, ?_⟩)⟩
 ·show _≤a1D w
  unfold a1D
  repeat' split
  all_goals omega
 ·show a1B w≤_
  unfold a1B
  repeat' split
  all_goals omega
theorem c0v(w:Int)(y:Int×Int):b4z w y=((vF w).may y.1&&K2.may y.2):=rfl
theorem d3k{l:List Fld}{op:Int}(h:lay op=some l)(h49:op=49):l=[b0e]:=by
 rw[h49]at h
 have:lay 49=some [b0e]:=rfl
 rw[this]at h
 cases h
 rfl
theorem c8n:∀(l:List Int) (b:Int),leN (l++[b])=leN l+b.toNat*2^(8*l.length)
 | [],b=>by simp[leN]
 |a::l,b=>by
  have hp:2^(8*(l.length+1))=256*2^(8*l.length):=by rw[show 8*(l.length+1)=8+8*l.length by omega,Nat.pow_add]
  rw[List.cons_append,leN,leN,c8n l b,List.length_cons,hp,Nat.mul_add, ←Nat.add_assoc]
  congr 1
  rw[Nat.mul_left_comm]
theorem a6p{bs:List Int}{f:Fld}{s:Nat×Int}(h:s.1≤bs.length):(C2 bs f s).2.1≤bs.length:=by
 unfold C2
 split
 ·exact h
 split
 ·exact h
 ·split
  ·simp only;omega
  ·exact h
theorem d4k(u:Int):I64 (IntKind.i64.wrap u):=by
 unfold I64
 simp only[IntKind.wrap,IntKind.bits,IntKind.signed];simp
 split<;>omega
def c9h(bs:List Int):Nat→Int→Int→Nat×Int→List Fld→Int×Int×(Nat×Int)
 |_,a,b,s,[]=>(a,b,s)
 |i,a,b,s,f::l=>c9h bs (i+1) (if i=0 then(C2 bs f s).1 else a) (if i=0 then b else(C2 bs f s).1) (C2 bs f s).2 l
theorem d9s{bs:List Int}{s:Nat×Int}:∀ {l:List Fld},l.length≤2→c9h bs 0 0 0 s l=U8 bs l s
 | [],_=>rfl
 | [f],_=>rfl
 | [f,g],_=>rfl
 |_::_::_::_,h=>by simp at h
def B6(bs:List Int)(n:Int):Dat×(Nat×Int):=if n<0∨n≥bs.length then(d0w,(0,2)) else c2u bs n.toNat
section
variable{bs es:List Int}{i:Nat}{f:Fld}{s sb sE:Nat×Int}
theorem c3Y(h:(C2 bs f s).2.2=0):s.2=0:=by
 by_cases hs:s.2=0
 ·exact hs
 ·rw[d1A hs]at h;exact h
theorem b9i{w:Int}{n:Nat}{acc:List (Int×Int)}(h:s.2≠0):E3 bs w n s acc=(acc,s):=by
 cases n with
 |zero=>rfl
 |succ n=>rw[E3,if_pos h]
theorem b3a{w:Int}{n:Nat}{acc:List (Int×Int)}(h:(E3 bs w n s acc).2.2=0):s.2=0:=by
 by_cases hs:s.2=0
 ·exact hs
 ·rw[b9i hs]at h;exact h
end
theorem e0o(x:In):1≤(b7X x).length:=by unfold b7X;simp
section
variable{bs l m:List Int}{f:Fld}{s:Nat×Int}{p:Nat}
def Seg(bs:List Int)(p:Nat)(l:List Int):Prop:=p+l.length≤bs.length∧(bs.drop p).take l.length=l
theorem Seg.append(h:Seg bs p l)(g:Seg bs (p+l.length) m):Seg bs p (l++m):=by
 obtain⟨h1,h2⟩:=h
 obtain⟨g1,g2⟩:=g
 refine⟨by rw[List.length_append];omega, ?_⟩
 rw[List.length_append,List.take_add,h2,List.drop_drop,g2]
theorem Seg.nil(h:p≤bs.length):Seg bs p []:=⟨by simpa using h,rfl⟩
theorem b9y(hb:∀b∈bs,Y9 b)(h8:f.size≤8)(h:(C2 bs f s).2.2=0):s.2=0∧f.may (C2 bs f s).1=true∧(C2 bs f s).2.1=s.1+f.size∧Seg bs s.1 (F6 (C2 bs f s).1 f.size):=by
 have h0:=c3Y h
 obtain⟨p,e⟩:=s
 simp only at h0
 subst h0
 obtain⟨n,q,e,hr⟩:∃n q e,C2 bs f (p,0)=(n,q,e):=⟨_,_,_,rfl⟩
 rw[hr]at h ⊢
 simp only at h
 subst h
 obtain⟨a1,a2,a3,a4⟩:=e1s hb h8 hr
 exact⟨rfl,a1,a2,by rw[s7];simp only;omega,by rw[s7];exact a4⟩
theorem e0p(h:s.1≤bs.length):(C2 bs f s).2.1≤bs.length:=by
 unfold C2
 split
 ·exact h
 split
 ·exact h
 ·split
  ·simp only;omega
  ·exact h
theorem a5v(h:a8p f):f.size≤8:=by
 obtain⟨_,h|h|h⟩:=h<;>omega
theorem b7y{n:Int}(h:a8p f)(hm:f.may n=true):I64 n:=by
 have hm:=of_decide_eq_true hm
 obtain⟨h1,⟨h7,hlo,hhi⟩|⟨h7,hlo,hhi⟩|⟨h8,hlo,hhi⟩⟩:=h
 ·have hle:(2:Int)^(8*f.size)≤2^56:=by
   have:2^(8*f.size)≤2^56:=Nat.pow_le_pow_right (by decide) (by omega)
   exact_mod_cast this
  exact⟨by omega,by omega⟩
 ·have hle:(2:Int)^(8*f.size - 1)≤2^56:=by
   have:2^(8*f.size - 1)≤2^56:=Nat.pow_le_pow_right (by decide) (by omega)
   exact_mod_cast this
  exact⟨by omega,by omega⟩
 ·exact⟨by omega,by omega⟩
theorem c8e(hb:∀b∈bs,Y9 b){x:In}:∀ {l:List Fld},(∀f∈l,a8p f)→l.length≤2→s.1≤bs.length→(U8 bs l s).2.2.2=0→(x.a=(U8 bs l s).1)→(2≤l.length→x.b=(U8 bs l s).2.1)→
  Y8 x 0 l=true∧Seg bs s.1 (a6j x 0 l)∧(U8 bs l s).2.2.1=s.1+(a6j x 0 l).length∧I64 x.a∧(2≤l.length→I64 x.b)∧(l.length<2→(U8 bs l s).2.1=0)∧(l.length<1→x.a=0)
 | [],_,_,hs,h,ha,_=>by
  have ha:x.a=0:=ha
  exact⟨rfl,Seg.nil hs,rfl,by rw[ha];exact⟨by decide,by decide⟩,fun h=>by simp at h,fun _=>rfl,fun _=>ha⟩
 | [f],hg,_,hs,h,ha,_=>by
  have hf:=hg f (by simp)
  obtain⟨h0,h1,h2,h3⟩:=b9y hb (a5v hf) (show(C2 bs f s).2.2=0 from h)
  have ha:x.a=(C2 bs f s).1:=ha
  have hn:x.num 0=(C2 bs f s).1:=ha
  refine⟨by simp[Y8,hn,h1],by simpa [a6j,hn]using h3, ?_,by rw[ha];exact b7y hf h1,fun h=>by simp at h,fun _=>rfl,fun h=>by simp at h⟩
  simp only[a6j,hn,List.append_nil,s7]
  exact h2
 | [f,g],hg,_,hs,h,ha,hbb=>by
  have hf:=hg f (by simp)
  have hg:=hg g (by simp)
  have hb2:x.b=(C2 bs g (C2 bs f s).2).1:=hbb (by simp)
  obtain⟨k0,k1,k2,k3⟩:=b9y hb (a5v hg) (show(C2 bs g (C2 bs f s).2).2.2=0 from h)
  obtain⟨h0,h1,h2,h3⟩:=b9y hb (a5v hf) k0
  have ha:x.a=(C2 bs f s).1:=ha
  have hn:x.num 0=(C2 bs f s).1:=ha
  have hn1:x.num 1=(C2 bs g (C2 bs f s).2).1:=hb2
  refine⟨by simp[Y8,hn,hn1,h1,k1], ?_, ?_,by rw[ha];exact b7y hf h1,fun _=>by rw[hb2];exact b7y hg k1,fun h=>by simp at h,fun h=>by simp at h⟩
  ·simp only[a6j,hn,hn1,List.append_nil]
   refine h3.append ?_
   rw[s7, ←h2];exact k3
  ·simp only[a6j,hn,hn1,List.append_nil,List.length_append,s7]
   show(C2 bs g (C2 bs f s).2).2.1=_
   omega
 |_::_::_::_,_,h,_,_,_,_=>by simp at h
theorem d3D(hb:∀b∈bs,Y9 b){w:Int}:∀(n:Nat) (s:Nat×Int) (acc:List (Int×Int)),s.1≤bs.length→(E3 bs w n s acc).2.2=0→
  ∃new,(E3 bs w n s acc).1=acc++new∧new.length=n∧new.all (b4z w)=true∧Seg bs s.1 (a4U new)∧(E3 bs w n s acc).2.1=s.1+(a4U new).length∧(∀y∈new,I64 y.1∧I64 y.2)
 |0,s,acc,hs,h=>⟨[],by simp[E3],rfl,rfl,Seg.nil hs,rfl,fun y hy=>by cases hy⟩
 |n+1,s,acc,hs,h=>by
  have h0:=b3a h
  have eE:E3 bs w (n+1) s acc=E3 bs w n (C2 bs K2 (C2 bs (vF w) s).2).2 (acc++[((C2 bs (vF w) s).1,(C2 bs K2 (C2 bs (vF w) s).2).1)]):=by rw[E3,if_neg (by simp[h0])]
  rw[eE]at h ⊢
  obtain⟨k0,k1,k2,k3⟩:=b9y hb (by decide) (b3a h:(C2 bs K2 (C2 bs (vF w) s).2).2.2=0)
  obtain⟨h0,h1,h2,h3⟩:=b9y hb (by show 8≤8;omega) k0
  have hle:(C2 bs K2 (C2 bs (vF w) s).2).2.1≤bs.length:=by
   have:=k3.1
   rw[s7]at this
   omega
  obtain⟨new,e1,e2,e3,e4,e5,e6⟩:=d3D hb n _ _ hle h
  have sz1:(vF w).size=8:=rfl
  have sz2:K2.size=4:=rfl
  refine⟨((C2 bs (vF w) s).1,(C2 bs K2 (C2 bs (vF w) s).2).1)::new,by rw[e1];simp,by simp[e2], ?_, ?_, ?_, ?_⟩
  ·rw[List.all_cons,c0v,h1,k1,e3];rfl
  ·have:a4U (((C2 bs (vF w) s).1,(C2 bs K2 (C2 bs (vF w) s).2).1)::new)=(F6 (C2 bs (vF w) s).1 8++F6 (C2 bs K2 (C2 bs (vF w) s).2).1 4)++a4U new:=by simp[a4U,d9Y]
   rw[this]
   refine(Seg.append h3 ?_).append ?_
   ·rw[s7, ←h2];exact k3
   ·rw[List.length_append,s7,s7]
    rw[sz1]at h2
    rw[sz2]at k2
    have:s.1+(8+4)=(C2 bs K2 (C2 bs (vF w) s).2).2.1:=by omega
    rw[sz1,this];exact e4
  ·rw[e5,a3T,a3T,List.length_cons]
   omega
  ·intro y hy
   rcases List.mem_cons.1 hy with rfl|hy
   ·exact⟨b7y (d6l w) h1,b7y b3A k1⟩
   ·exact e6 y hy
theorem e1o(hb:∀b∈bs,Y9 b)(hp:p<bs.length){op a b:Int}{arms:List (Int×Int)}{next:Nat}(h:c2u bs p=((op,a,b,arms),(next,0))){x:In}(hx:x.dat=(op,a,b,arms)):
  x.Ok∧isS x=true∧Seg bs p (b7X x)∧next=p+(b7X x).length:=by
 have hlay:lay (bs.getD p 0)≠none:=by
  intro e
  unfold c2u at h
  rw[if_pos e]at h
  have:=congrArg (fun d=>d.2.2) h
  simp at this
 have hX:b2i bs p=((op,a,b,arms),(next,0)):=by
  unfold c2u at h
  rw[if_neg hlay]at h
  by_cases h0:(b2i bs p).2.2=0
  ·rw[if_neg (by simp[h0])]at h;exact h
  ·rw[if_pos h0]at h
   have:=congrArg (fun d=>d.2.2) h
   exact(h0 this).elim
 obtain⟨l,hl⟩:=Option.ne_none_iff_exists'.1 hlay
 obtain⟨hx1,hx2,hx3,hx4⟩:x.op=op∧x.a=a∧x.b=b∧x.arms=arms:=by
  have e:=hx
  unfold In.dat at e
  simp only[Prod.mk.injEq]at e
  exact e
 have hgood:=b7r (bs.getD p 0)
 have hlen:=a8k (op:=bs.getD p 0)
 rw[hl]at hgood hlen
 simp only[Option.getD_some]at hgood hlen
 have hby:Y9 (bs.getD p 0):=by
  rw[List.getD_eq_getElem?_getD,List.getElem?_eq_getElem hp]
  exact hb _ (List.getElem_mem _)
 have hseg0:Seg bs p [bs.getD p 0]:=by
  refine⟨by simp;omega, ?_⟩
  rw[List.getD_eq_getElem?_getD,List.getElem?_eq_getElem hp]
  show(bs.drop p).take 1=[bs[p]]
  rw[List.drop_eq_getElem_cons hp]
  rfl
 unfold b2i at hX
 rw[hl,Option.getD_some]at hX
 by_cases h49:bs.getD p 0=49
 ·rw[if_pos h49]at hX
  have hl1:l=[b0e]:=d3k hl h49
  subst hl1
  unfold b0z at hX
  obtain⟨r,hr⟩:∃r,r=U8 bs [b0e] (p+1,0):=⟨_,rfl⟩
  rw[←hr]at hX
  simp only[Prod.mk.injEq]at hX
  obtain⟨⟨q1,q2,q3,q4⟩,q5⟩:=hX
  have t0:=congrArg Prod.snd q5
  simp only at t0
  obtain⟨u0,u1,u2,u3⟩:=b9y hb (by decide) t0
  have v0:=b3a u0
  obtain⟨w0,w1,w2,w3⟩:=b9y hb (by decide) v0
  have hop:x.op=49:=by rw[hx1, ←q1]
  have ha:x.a=r.1:=by rw[hx2, ←q2]
  obtain⟨y1,y2,y3,y4,y5,y6,y7⟩:=c8e (x:=x) (s:=(p+1,0)) hb hgood hlen (by simp only;omega) (by rw[←hr];exact w0) (by rw[←hr];exact ha) (fun h=>by simp at h)
  rw[←hr]at y3
  have hle1:r.2.2.1≤bs.length:=by rw[y3];exact y2.1
  have hle2:(C2 bs fIx r.2.2).2.1≤bs.length:=e0p hle1
  obtain⟨new,e1,e2,e3,e4,e5,e6⟩:=d3D hb _ _ _ hle2 u0
  rw[List.nil_append]at e1
  have harms:x.arms=new:=by rw[hx4, ←q4,e1]
  have hb2:=hx3.trans q3.symm
  have hcnt:=of_decide_eq_true w1
  have hcnt0:0≤(C2 bs fIx r.2.2).1∧(C2 bs fIx r.2.2).1≤65535:=hcnt
  have hn:((new.length:Nat):Int)=(C2 bs fIx r.2.2).1:=by rw[e2];omega
  have hlv:=of_decide_eq_true u1
  have hS:isS x=true:=by
   unfold isS
   rw[hop,if_pos rfl,show lay 49=some [b0e]from rfl,Option.getD_some,y1,harms,ha,e3,hb2]
   simp only[Option.isSome_some,Bool.true_and,Bool.and_true,Bool.and_eq_true,decide_eq_true_eq]
   exact⟨by omega,hlv⟩
  have hE:b7X x=[49]++a6j x 0 [b0e]++(F6 (C2 bs fIx r.2.2).1 2++a4U new++F6 x.b 4):=by
   unfold b7X
   rw[hop,if_pos rfl,show lay 49=some [b0e]from rfl,Option.getD_some,harms,hn]
   simp
  have hsg:Seg bs p (b7X x):=by
   rw[hE]
   rw[h49]at hseg0
   refine(hseg0.append y2).append (Seg.append (Seg.append ?_ ?_) ?_)
   ·have:p+([49]++a6j x 0 [b0e]).length=r.2.2.1:=by rw[y3,List.length_append];simp;omega
    rw[this];exact w3
   ·have:p+([49]++a6j x 0 [b0e]).length+(F6 (C2 bs fIx r.2.2).1 2).length=(C2 bs fIx r.2.2).2.1:=by
     rw[w2,y3,List.length_append,s7];show _=_+2;simp;omega
    rw[this];exact e4
   ·have:p+([49]++a6j x 0 [b0e]).length+(F6 (C2 bs fIx r.2.2).1 2++a4U new).length=(E3 bs (IntKind.u8.wrap r.1) (C2 bs fIx r.2.2).1.toNat (C2 bs fIx r.2.2).2 []).2.1:=by
     rw[e5,w2,y3,List.length_append,List.length_append,s7];show _=_+2+_;simp;omega
    rw[this,hb2];exact u3
  refine⟨⟨by rw[hop];decide,y4,by rw[hb2];exact b7y b3A u1,by rw[harms];exact e6,by rw[harms];omega⟩,hS,hsg, ?_⟩
  have t1:=congrArg Prod.fst q5
  simp only at t1
  rw[←t1,u2,e5,w2,y3,hE]
  simp only[List.length_append,s7,List.length_cons,List.length_nil]
  show _+2+_+4=_
  omega
 ·rw[if_neg h49]at hX
  simp only[Prod.mk.injEq]at hX
  obtain⟨⟨q1,q2,q3,q4⟩,q5⟩:=hX
  have t0:=congrArg Prod.snd q5
  simp only at t0
  have hop:x.op=bs.getD p 0:=by rw[hx1, ←q1]
  obtain⟨y1,y2,y3,y4,y5,y6,y7⟩:=c8e (x:=x) (s:=(p+1,0)) hb hgood hlen (by simp only;omega) t0 (by rw[hx2, ←q2]) (fun _=>by rw[hx3, ←q3])
  have harms:x.arms=[]:=by rw[hx4, ←q4]
  have hbz:l.length<2→x.b=0:=fun h=>by rw[hx3, ←q3];exact y6 h
  have hop49:x.op≠49:=by rw[hop];exact h49
  have hlx:lay x.op=some l:=by rw[hop];exact hl
  have hS:isS x=true:=by
   unfold isS
   rw[if_neg hop49,hlx,Option.getD_some,y1,harms]
   simp only[Option.isSome_some,Bool.true_and,List.length_nil,decide_true,Bool.and_eq_true,Bool.or_eq_true,decide_eq_true_eq]
   refine⟨?_, ?_⟩
   ·by_cases h2:2≤l.length
    ·exact .inl h2
    ·exact .inr (hbz (by omega))
   ·by_cases h2:1≤l.length
    ·exact .inl h2
    ·exact .inr (y7 (by omega))
  have hE:b7X x=[bs.getD p 0]++a6j x 0 l:=by
   unfold b7X
   rw[if_neg hop49,hlx,Option.getD_some,hop]
   simp
  refine⟨⟨by rw[hop];exact hby,y4, ?_,(by rw[harms];intro y hy;cases hy),by rw[harms];decide⟩,hS,by rw[hE];exact hseg0.append y2, ?_⟩
  ·by_cases h2:2≤l.length
   ·exact y5 h2
   ·rw[hbz (by omega)];exact⟨by decide,by decide⟩
  ·have t1:=congrArg Prod.fst q5
   simp only at t1
   rw[←t1,y3,hE]
   simp
   omega
end
theorem e0l{bs:List Int}(hb:∀b∈bs,Y9 b){n:Int}(h:(B6 bs n).2.2=0){x:In}(hx:x.dat=(B6 bs n).1):
  0≤n∧n.toNat<bs.length∧x.Ok∧isS x=true∧Seg bs n.toNat (b7X x)∧(B6 bs n).2.1=n.toNat+(b7X x).length:=by
 by_cases hn:n<0∨n≥bs.length
 ·unfold B6 at h
  rw[if_pos hn]at h
  simp at h
 ·have hd:B6 bs n=c2u bs n.toNat:=by unfold B6;rw[if_neg hn]
  rw[hd]at h hx ⊢
  obtain⟨d,next,e,hde⟩:∃d next e,c2u bs n.toNat=(d,(next,e)):=⟨_,_,_,rfl⟩
  obtain⟨op,a,b,arms⟩:=d
  rw[hde]at h hx ⊢
  simp only at h hx ⊢
  subst h
  obtain⟨a1,a2,a3,a4⟩:=e1o hb (by omega) hde hx
  exact⟨by omega,by omega,a1,a2,a3,a4⟩
def upR(f:Fld)(u:Nat):Int:=if f.lo<0∧f.size<8∧u / 2^(8*f.size - 1)=1 then IntKind.u64.wrap ((u:Int) - 2^(8*f.size)) else u
theorem e0Z{f:Fld}(hf:a8p f){u:Nat}(hu:u<2^(8*f.size)):rdN f u=if f.may (IntKind.i64.wrap (upR f u))=true then some (IntKind.i64.wrap (upR f u)) else none:=by
 have iw:∀z:Int,IntKind.i64.wrap z=if 9223372036854775808≤z % 18446744073709551616 then z % 18446744073709551616 - 18446744073709551616 else z % 18446744073709551616:=by
  intro z
  simp only[IntKind.wrap,IntKind.bits,IntKind.signed];simp
 obtain⟨h1,hf⟩:=hf
 have may_f:∀n:Int,n<f.lo→f.may n=false:=fun n h=>decide_eq_false (by omega)
 have may_g:∀n:Int,f.hi<n→f.may n=false:=fun n h=>decide_eq_false (by omega)
 by_cases h8:f.size=8
 ·have:upR f u=u:=by unfold upR;rw[if_neg (by omega)]
  rw[this]
  unfold rdN
  simp only
  rw[if_neg (show ¬(f.may (IntKind.i64.wrap (u:Int))=false∧f.size<8) by omega)]
 have h7:f.size≤7:=by omega
 obtain⟨M,hM⟩:∃M:Nat,M=2^(8*f.size - 1):=⟨_,rfl⟩
 have hM2:2^(8*f.size)=2*M:=by rw[hM,show 8*f.size=1+(8*f.size - 1) by omega,Nat.pow_add,show 1+(8*f.size - 1) - 1=8*f.size - 1 by omega]
 have hMi:(2:Int)^(8*f.size)=2*(M:Int):=by have:((2^(8*f.size):Nat):Int)=((2*M:Nat):Int):=by rw[hM2]
                                           simpa using this
 have hMj:(2:Int)^(8*f.size - 1)=(M:Int):=by rw[hM];simp
 have hMl:M≤2^55:=by rw[hM];exact Nat.pow_le_pow_right (by decide) (by omega)
 rw[hM2]at hu
 have hn:IntKind.i64.wrap (u:Int)=u:=j8 (by omega) (by omega)
 unfold rdN
 simp only[hn,hMi]
 by_cases hs:f.lo<0∧f.size<8∧u / M=1
 ·have hup:upR f u=IntKind.u64.wrap ((u:Int) - 2*M):=by unfold upR;rw[←hM,if_pos hs,hMi]
  have huM:M≤u:=by
   refine Nat.le_of_not_lt fun h=> ?_
   have:=Nat.div_eq_of_lt h
   omega
  have hw:IntKind.i64.wrap (upR f u)=(u:Int) - 2*M:=by
   rw[hup,a2z,iw];split<;>omega
  have hno:f.may (u:Int)=false:=may_g _ (by
   rcases hf with ⟨_,a,b⟩|⟨_,a,b⟩|⟨a,_⟩
   ·omega
   ·rw[hMj]at b;omega
   ·omega)
  rw[hw]
  simp[hno,show f.size<8 by omega]
 ·have hup:upR f u=u:=by unfold upR;rw[←hM,if_neg hs]
  rw[hup,hn]
  cases hm:f.may (u:Int) with
  |true=>simp[hm]
  |false=>
   have hno:f.may ((u:Int) - 2*M)=false:=by
    by_cases hlo:f.lo<0
    ·have hd:¬u / M=1:=fun h=>hs ⟨hlo,by omega,h⟩
     have huM:u<M:=by
      refine Nat.lt_of_not_le fun h=>hd ?_
      exact Nat.div_eq_of_lt_le (by omega) (by omega)
     refine may_f _ ?_
     rcases hf with ⟨_,a,b⟩|⟨_,a,b⟩|⟨a,_⟩
     ·omega
     ·rw[hMj]at a;omega
     ·omega
    ·exact may_f _ (by omega)
   simp[hno,show f.size<8 by omega]
theorem d1i{bs:List Int}{w:Int}:∀(n:Nat) (s:Nat×Int) (acc:List (Int×Int)),s.1≤bs.length→(E3 bs w n s acc).2.1≤bs.length
 |0,s,acc,h=>h
 |n+1,s,acc,h=>by
  rw[E3]
  split
  ·exact h
  ·exact d1i n _ _ (a6p (a6p h))
def b7V(bs:List Int):Nat→Nat→Except Int (List (Dat×Nat))
 |0,_=> .ok []
 |n+1,p=>if bs.length≤p then .ok []else if(B6 bs p).2.2=0 then(match b7V bs n (B6 bs p).2.1 with| .ok l=> .ok (((B6 bs p).1,p)::l)| .error e=> .error e) else .error (B6 bs p).2.2
def d2e(done:List (Dat×Nat)):Except Int (List (Dat×Nat))→Except Int (List (Dat×Nat))
 | .ok l=> .ok (done++l)
 | .error e=> .error e
def d1Q(op:Int):Option (List Fld):=
 if op=1 then some [⟨1, -128,127⟩]else if op=2 then some [⟨4, -2147483648,2147483647⟩]else if op=3 then some [⟨8, -9223372036854775808,9223372036854775807⟩]
 else if(op==6||op==7||op==8||op==50||op==36||decide (39≤op∧op≤45))=true then some [fIx]else if(op==37||op==38)=true then some [fIx,fIx]
 else if(op==23||op==24)=true then some [⟨1,1,5⟩]else if decide (11≤op∧op≤28)=true then some [b0e]else if op=29 then some [b0e,b0e]
 else if(op==46||op==47||op==48)=true then some [K2]else if op=52 then some [⟨1,0,255⟩]else if op=49 then some [b0e]else if decide (1≤op∧op≤52)=true then some []else none
theorem d6B(op:Int):d1Q op=lay op:=by
 unfold d1Q lay
 by_cases h1:op=1
 ·rw[if_pos h1,if_pos h1];rfl
 rw[if_neg h1,if_neg h1]
 by_cases h2:op=2
 ·rw[if_pos h2,if_pos h2];rfl
 rw[if_neg h2,if_neg h2]
 by_cases h3:op=3
 ·rw[if_pos h3,if_pos h3];rfl
 rw[if_neg h3,if_neg h3]
 unfold d3Y
 have e:(op==6||op==7||op==8||op==50||op==36||decide (39≤op∧op≤45))=(op==6||op==7||op==8||op==50||op==36||op==39||op==40||op==41||op==42||op==43||op==44||op==45):=by
  rw[Bool.eq_iff_iff]
  simp only[Bool.or_eq_true,beq_iff_eq,decide_eq_true_eq]
  omega
 rw[e]
 by_cases h4:(op==6||op==7||op==8||op==50||op==36||op==39||op==40||op==41||op==42||op==43||op==44||op==45)=true
 ·rw[if_pos h4,if_pos h4]
 rw[if_neg h4,if_neg h4]
 unfold d5t
 by_cases h5:(op==37||op==38)=true
 ·rw[if_pos h5,if_pos h5]
 rw[if_neg h5,if_neg h5]
 unfold d5h
 by_cases h6:(op==23||op==24)=true
 ·rw[if_pos h6,if_pos h6]
 rw[if_neg h6,if_neg h6]
 unfold d5c
 by_cases h7:11≤op∧op≤28
 ·have g1:¬(op==46||op==47||op==48)=true:=by simp only[Bool.or_eq_true,beq_iff_eq];omega
  rw[if_pos (by simpa using h7),if_neg (show ¬op=29 by omega),if_neg g1,if_neg (show ¬op=52 by omega),if_neg (show ¬op=49 by omega),if_pos h7]
 ·have g1:¬decide (11≤op∧op≤28)=true:=by simpa using h7
  rw[if_neg g1]
  by_cases h8:op=29
  ·rw[if_pos h8,if_pos h8]
  rw[if_neg h8,if_neg h8]
  by_cases h9:(op==46||op==47||op==48)=true
  ·rw[if_pos h9,if_pos h9]
  rw[if_neg h9,if_neg h9]
  by_cases h10:op=52
  ·rw[if_pos h10,if_pos h10]
  rw[if_neg h10,if_neg h10]
  by_cases h11:op=49
  ·rw[if_pos h11,if_pos h11]
  rw[if_neg h11,if_neg h11,if_neg h7]
  by_cases h12:1≤op∧op≤52
  ·rw[if_pos (by simpa using h12),if_pos h12]
  ·rw[if_neg (by simpa using h12),if_neg h12]
end Go.Op
end
section
namespace Go.Am
mutual
def frz(k:Nat)(o:K8):D→D
 | .ptr j i=>if j=k then(match o.rows with
  | [cs]=> .elt cs i
  |_=> .any) else .ptr j i
 | .rel j r i sz=>if j=k then(match o.rows[r]? with
  |some row=>if o.sz=sz then .elt row i else .any
  |none=> .any) else .rel j r i sz
 | .raw j i len cap ex sz=>if j=k then(if o.sz=sz∧i+len≤o.rows.length∧len≤cap then .lst ((o.rows.drop i).take len) sz else .any) else .raw j i len cap ex sz
 | .fn f a b=> .fn f (c8u k o a) (c8u k o b)
 | .ifc t v=> .ifc t (frz k o v)
 | .agg cs=> .agg (c8u k o cs)
 | .tup ds=> .tup (c8u k o ds)
 |d=>d
def c8u(k:Nat)(o:K8):List D→List D
 | []=>[]
 |d::ds=>frz k o d::c8u k o ds
end
section
variable{P:Program}{E:j6}{w0:World}{x:Bool}{R:Fz}{S:b9}{H:AHeap}
mutual
theorem d6h(hC:G4 E R S H){k:Nat}{o:K8}(hk:S k=some o):∀ {d:D} {v:AV},Rp E R d v→Rp E (fun j=>if j=k then some o.acs else R j) (frz k o d) v
 | .any,v,_=>by simp only[frz,Rp]
 | .bool b,v,h=>by simp only[frz,Rp]at*;exact h
 | .int j n,v,h=>by simp only[frz,Rp]at*;exact h
 | .str s,v,h=>by simp only[frz,Rp]at*;exact h
 | .nilPtr,v,h=>by simp only[frz,Rp]at*;exact h
 | .nilSlc,v,h=>by simp only[frz,Rp]at*;exact h
 | .nilMap,v,h=>by simp only[frz,Rp]at*;exact h
 | .nilFn,v,h=>by simp only[frz,Rp]at*;exact h
 | .nilIfc,v,h=>by simp only[frz,Rp]at*;exact h
 | .elt row i,v,h=>by
  have:=Rp.le (hC.freeze hk).2 _ _ h
  simp only[frz];exact this
 | .lst rows sz,v,h=>by
  have:=Rp.le (hC.freeze hk).2 _ _ h
  simp only[frz];exact this
 | .ext rows more sz,v,h=>by
  have:=Rp.le (hC.freeze hk).2 _ _ h
  simp only[frz];exact this
 | .ptr j i,v,h=>by
  simp only[frz]
  split
  ·rename_i e
   subst e
   obtain⟨h1,⟨pre,h2⟩,h3,h4,h5⟩:=hC.own j o hk
   split
   ·rename_i cs hcs
    simp only[Rp]at h ⊢
    subst h
    rw[hcs,List.flatten_singleton]at h5
    have e:o.acs.take cs.length=o.acs:=List.take_of_length_le (by rw[h5.length];exact Nat.le_refl _)
    refine⟨.new j,0,o.acs,by rw[Nat.zero_add], ?_, ?_, ?_⟩
    ·show(if j=j then some o.acs else R j)=some o.acs
     rw[if_pos rfl]
    ·rw[List.drop_zero,e];exact C8.le (hC.freeze hk).2 _ _ h5
    ·rw[List.drop_zero,e];exact h3
   ·exact b2Y
  ·simp only[Rp]at*;exact h
 | .rel j r i sz,v,h=>by
  simp only[frz]
  split
  ·rename_i e
   subst e
   obtain⟨h1,⟨pre,h2⟩,h3,h4,h5⟩:=hC.own j o hk
   split
   ·rename_i row hrow
    split
    ·rename_i hsz
     simp only[Rp]at h ⊢
     subst h
     have hl:row.length=sz:=by rw[h4 row (List.mem_of_getElem? hrow),hsz]
     refine⟨.new j,r*sz,o.acs,rfl, ?_, ?_,V4 (W4 h3 _) _⟩
     ·show(if j=j then some o.acs else R j)=some o.acs
      rw[if_pos rfl]
     ·have:=(h5.drop (r*sz)).take row.length
      rw[←hsz]at this hl ⊢
      rw[hl,b5V h4 hrow]at this
      rw[hl]
      exact C8.le (hC.freeze hk).2 _ _ this
    ·exact b2Y
   ·exact b2Y
  ·simp only[Rp]at*;exact h
 | .raw j i len cap ex sz,v,h=>by
  simp only[frz]
  split
  ·rename_i e
   subst e
   split
   ·rename_i hc
    exact b7l hC hk h hc.1 hc.2.1 hc.2.2
   ·exact b2Y
  ·simp only[Rp]at*;exact h
 | .fn f a b,v,h=>by
  simp only[frz,Rp]at*
  obtain⟨a',b',e1,e2,e3⟩:=h
  exact⟨a',b',e1,c0o hC hk e2,c0o hC hk e3⟩
 | .ifc t d,v,h=>by
  simp only[frz,Rp]at*
  obtain⟨v',e1,e2⟩:=h
  exact⟨v',e1,d6h hC hk e2⟩
 | .agg cs,v,h=>by
  simp only[frz,Rp]at*
  obtain⟨vs,e1,e2,e3⟩:=h
  exact⟨vs,e1,c0o hC hk e2,e3⟩
 | .tup ds,v,h=>by
  simp only[frz,Rp]at*
  obtain⟨vs,e1,e2⟩:=h
  exact⟨vs,e1,c0o hC hk e2⟩
theorem c0o(hC:G4 E R S H){k:Nat}{o:K8}(hk:S k=some o):∀ {ds:List D} {vs:List AV},C8 E R ds vs→C8 E (fun j=>if j=k then some o.acs else R j) (c8u k o ds) vs
 | [],vs,h=>by simp only[c8u,C8]at*;exact h
 |d::ds,vs,h=>by
  simp only[c8u,C8]at*
  obtain⟨v,ws,e1,e2,e3⟩:=h
  exact⟨v,ws,e1,d6h hC hk e2,c0o hC hk e3⟩
end
theorem i9.frz{Q:D→b9→Prop}{d:D}{k:Nat}{o:K8}(hk:S k=Option.none)(h:i9 E Q (Am.frz k o d) S):i9 E Q d (S.set k o):=fun R H v hC hd=>by
 obtain⟨h1,h2⟩:=hC.freeze (b9.set_same S k o)
 rw[b9.erase_set _ _ _ hk]at h1
 obtain⟨R',S',d',a,b,c,e⟩:=h _ H v h1 (d6h hC (b9.set_same S k o) hd)
 exact⟨R',S',d',Fz.le_trans h2 a,b,c,e⟩
def Wk(d d':D):Prop:=∀(E:j6) (R:Fz) (v:AV),Rp E R d v→Rp E R d' v
def WkL:List D→List D→Prop
 | [],[]=>True
 |d::ds,e::es=>Wk d e∧WkL ds es
 |_,_=>False
theorem Wk.refl(d:D):Wk d d:=fun _ _ _ h=>h
theorem Wk.any(d:D):Wk d .any:=fun _ _ _ _=>b2Y
theorem Wk.nil(sz:Nat):Wk .nilSlc (.lst [] sz):=fun E R v h=>by simp only[Rp]at h ⊢;exact .inl ⟨by trivial,h⟩
theorem Wk.ext(rows more:List (List D))(sz:Nat):Wk (.ext rows more sz) (.lst rows sz):=fun E R v h=>by
 simp only[Rp]at h ⊢
 obtain⟨o,j,cap,ex,z,all,e1,e2,e3,e4,e5,e6,e7,e8,e9⟩:=h
 refine .inr ⟨o,j,cap,ex,z,e1,e2,by omega,e4, ?_⟩
 rcases e6 with e6|⟨e6,_⟩
 rotate_left
 ·exact .inl e6
 refine .inr ⟨all,e6,e7, ?_⟩
 have:=V4 e9 (rows.length*sz)
 rw[List.take_take,Nat.min_eq_left (Nat.mul_le_mul_right _ (by omega))]at this
 exact this
theorem DF.split{F:FW}{f:FuncId}{sz:Nat}{pre post:List D}{S:b9}{Q:D→b9→Prop}(h1:DF E F f (pre++ .nilSlc::post) S Q)(h2:DF E F f (pre++ .ext [] [] sz::post) S Q):DF E F f (pre++ .lst [] sz::post) S Q:=fun R H avs hF hC ha=>by
 obtain⟨v1,v2,rfl,g1,g2⟩:=b1U ha
 simp only[C8]at g2
 obtain⟨w,ws,rfl,g3,g4⟩:=g2
 simp only[Rp]at g3
 rcases g3 with ⟨_,rfl⟩|⟨o,j,cap,ex,z,rfl,f1,f2,_,_⟩
 ·exact h1 R H _ hF hC (g1.append (D4 (by simp only[Rp]) g4))
 ·refine h2 R H _ hF hC (g1.append (D4 ?_ g4))
  simp only[Rp]
  exact⟨o,j,cap,ex,z,[],rfl,f1,by simp,by simp,by simp,by simp,by simp[a3G],by simp[a3G],by simp⟩
theorem WkL.refl:∀ds:List D,WkL ds ds
 | []=>trivial
 |d::ds=>⟨Wk.refl d,WkL.refl ds⟩
theorem WkL.ok:∀ {ds es:List D},WkL ds es→∀ {E:j6} {R:Fz} {vs:List AV},C8 E R ds vs→C8 E R es vs
 | [],[],_,E,R,vs,h=>h
 |d::ds,e::es,w,E,R,vs,h=>by
  simp only[C8]at h ⊢
  obtain⟨v,ws,e1,e2,e3⟩:=h
  exact⟨v,ws,e1,w.1 _ _ _ e2,WkL.ok w.2 e3⟩
 | [],_::_,w,_,_,_,_=>w.elim
 |_::_,[],w,_,_,_,_=>w.elim
theorem Wk.agg{ds es:List D}(w:WkL ds es):Wk (.agg ds) (.agg es):=fun E R v h=>by
 simp only[Rp]at h ⊢
 obtain⟨vs,e1,e2,e3⟩:=h
 exact⟨vs,e1,w.ok e2,e3⟩
theorem Wk.tup{ds es:List D}(w:WkL ds es):Wk (.tup ds) (.tup es):=fun E R v h=>by
 simp only[Rp]at h ⊢
 obtain⟨vs,e1,e2⟩:=h
 exact⟨vs,e1,w.ok e2⟩
theorem i9.weak{Q:D→b9→Prop}{d d':D}(w:Wk d d')(h:i9 E Q d' S):i9 E Q d S:=fun R H v hC hd=>h R H v hC (w _ _ _ hd)
theorem DF.weak{F:FW}{f:FuncId}{ds es:List D}{Q:D→b9→Prop}(w:WkL ds es)(h:DF E F f es S Q):DF E F f ds S Q:=fun R H avs hF hC ha=>h R H avs hF hC (w.ok ha)
theorem i9.drop{Q:D→b9→Prop}{d:D}{k:Nat}{o:K8}(hk:S k=Option.none)(h:i9 E Q d S):i9 E Q d (S.set k o):=i9.less (b9.le_new hk) h
theorem i9.pure{d:D}:i9 E (fun d' S'=>d'=d∧S'=S) d S:=i9.here ⟨rfl,rfl⟩
theorem d6v{k i len cap sz:Nat}{ex:Bool}{rows:List (List D)}{acs:List AV}(h:i+len≤rows.length)(hc:len≤cap):Am.frz k ⟨sz,rows,acs⟩ (.raw k i len cap ex sz)= .lst ((rows.drop i).take len) sz:=by
 simp only[Am.frz,if_true];rw[if_pos ⟨by trivial,h,hc⟩]
end
end Go.Am
end
section
open Go.Proofs Go Go.Am Go.Op
namespace Go.Proofs.YtchnpgddpaonhaaGreat.d
section
section
variable{E:j6}{w0:World}
theorem d1x{w:Int}:L1 Tryz.prog E w0 b6r [.int .u8 w] (.int .i64 (U2 w)):=fun x S=>by
 refine c6Y ?_
 unfold c4D U2
 simp only[Y4,oD,cdB,beq_iff_eq,beq_eq_false_iff_ne,ne_eq]
 refine⟨fun h=> ?_,fun h1=>⟨fun h=> ?_,fun h2=>⟨fun h=> ?_,fun h3=> ?_⟩⟩⟩<;>simp only[*,if_true,if_false]<;>exact i9.pure
theorem d1w{w n:Int}:L1 Tryz.prog E w0 b5K [.int .u8 w, .int .i64 n] (.int .i64 (b8L w n)):=fun x S=>by
 refine c9c ?_
 unfold c4y b8L
 simp only[Y4,oD,cdB,beq_iff_eq,beq_eq_false_iff_ne,ne_eq,cvI]
 refine⟨fun h=> ?_,fun h1=>⟨fun h=> ?_,fun h2=>⟨fun h=> ?_,fun h3=> ?_⟩⟩⟩<;>simp only[*,if_true,if_false]<;>exact i9.pure
theorem d7k(n:Int):IntKind.i8.wrap n=if 128≤n % 256 then n % 256 - 256 else n % 256:=by
 simp only[IntKind.wrap,IntKind.bits,IntKind.signed];simp
theorem d3W(n:Int):IntKind.i32.wrap n=if 2147483648≤n % 4294967296 then n % 4294967296 - 4294967296 else n % 4294967296:=by
 simp only[IntKind.wrap,IntKind.bits,IntKind.signed];simp
theorem d4O{w n:Int}(hn:I64 n):(0<U2 w∧b8L w n=n)↔(a1D w≤n∧n≤a1B w):=by
 obtain⟨h0,h1⟩:=hn
 unfold U2 b8L a1D a1B
 by_cases w1:w=1
 ·simp only[if_pos w1]
  rw[d7k,j8 (by split<;>omega) (by split<;>omega)]
  split<;>constructor<;>omega
 simp only[if_neg w1]
 by_cases w2:w=2
 ·simp only[if_pos w2]
  rw[d3W,j8 (by split<;>omega) (by split<;>omega)]
  split<;>constructor<;>omega
 simp only[if_neg w2]
 by_cases w3:w=3
 ·simp only[if_pos w3];exact⟨fun _=>⟨h0,h1⟩,fun _=>⟨by decide,by trivial⟩⟩
 simp only[if_neg w3];constructor<;>omega
theorem d2f{w n:Int}(hn:I64 n):L1 Tryz.prog E w0 b6m [.int .u8 w, .int .i64 n] (.bool (decide (a1D w≤n∧n≤a1B w))):=fun x S=>by
 refine c9t ?_
 unfold c4C
 refine d1x.use ?_
 have hi:=d4O (w:=w) hn
 by_cases hb:U2 w>0
 ·simp[hb]
  refine d1w.use ?_
  have e:(b8L w n==n)=decide (a1D w≤n∧n≤a1B w):=by
   by_cases hw:b8L w n=n
   ·rw[decide_eq_true (hi.1 ⟨hb,hw⟩),hw];simp
   ·rw[decide_eq_false (fun h=>hw (hi.2 h).2)];simpa using hw
  simp[e]
  exact i9.pure
 ·have e:decide (a1D w≤n∧n≤a1B w)=false:=decide_eq_false fun h=>hb (hi.2 h).1
  rw[e]
  simp[hb]
  exact i9.pure
def a0F(lo hi:Int):D:= .fn (.func a0D) [] [.elt [.int .i64 lo] 0, .elt [.int .i64 hi] 0]
def a9Y(w:Int):D:= .fn (.func a3O) [] [.elt [.int .u8 w] 0]
theorem I4{lo hi:Int}:L1 Tryz.prog E w0 u7 [.int .i64 lo, .int .i64 hi] (a0F lo hi):=fun x S=>by
 refine c4h ?_
 unfold b8w
 simp only[clI,oD]
 intro k acs hk k2 acs2 hk2
 obtain⟨hne,hk20⟩:=b9.fresh hk2
 refine i9.frz hk2 (i9.frz hk ?_)
 simp only[Am.frz,c8u,if_true,if_neg hne,if_neg (Ne.symm hne)]
 exact i9.pure
theorem a1M{w:Int}:L1 Tryz.prog E w0 F3 [.int .u8 w] (a9Y w):=fun x S=>by
 refine d0b ?_
 unfold c7T
 simp only[clI,oD]
 intro k acs hk
 refine i9.frz hk ?_
 simp only[Am.frz,c8u,if_true]
 exact i9.pure
theorem c3g{lo hi n:Int}:L1 Tryz.prog E w0 a0D [.int .i64 n, .elt [.int .i64 lo] 0, .elt [.int .i64 hi] 0] (.bool (decide (lo≤n∧n≤hi))):=fun x S=>by
 refine b8Y ?_
 unfold b4G
 by_cases h:lo≤n<;>simp[h]<;>exact i9.pure
theorem d0y{w n:Int}(hn:I64 n):L1 Tryz.prog E w0 a3O [.int .i64 n, .elt [.int .u8 w] 0] (.bool (decide (a1D w≤n∧n≤a1B w))):=fun x S=>by
 refine c5Q ?_
 unfold c1S
 simp only[lsE,List.getElem?_cons_zero,oD]
 exact(d2f hn).use i9.pure
end
end
section
def bD(bs:List Int):D:= .lst (y9 (bs.map (D.int .u8))) 1
theorem c4I{bs:List Int}{i:Nat}{b:Int}(h:bs[i]? =some b):p6 1 (bD bs) (.int .i64 (i:Int))=some (.elt [.int .u8 b] 0):=
 b9k (b5s (by rw[List.getElem?_map,h];rfl))
@[simp] theorem I8(bs:List Int):l9 (bD bs)=some (.int .i64 bs.length):=by simp[bD]
@[simp] theorem a7h(S:b9)(bs:List Int):rowsS S 1 (bD bs)=some (y9 (bs.map (D.int .u8))):=by simp[bD,rowsS,L2]
theorem a0h(a b:List D):y9 (a++b)=y9 a++y9 b:=by simp[y9]
theorem d4w(l:List D)(i:Nat)(d:D):(y9 l).set i [d]=y9 (l.set i d):=by simp[y9,List.map_set]
theorem b7A{a:Nat}(h:a<2^64):IntKind.u64.wrap (a:Int)=a:=by rw[a2z];omega
theorem a6g{w a:Nat}:(BitVec.ofInt w (a:Int)).toNat=a % 2^w:=by simp
theorem d6w(a:Nat):i6 .and (.int .u64 (a:Int)) (.int .u64 1)=some (.int .u64 ((a % 2:Nat):Int)):=by
 rw[d7d]
 show some (D.int .u64 (IntKind.u64.wrap ((BitVec.ofInt 64 (a:Int) &&& BitVec.ofInt 64 ((1:Nat):Int)).toNat:Int)))=_
 rw[BitVec.toNat_and,a6g,a6g,show(1:Nat) % 2^64=1 from rfl,Nat.and_one_is_mod,b7A (by omega)]
 congr 3
 omega
theorem d2Z{a b:Nat}(ha:a<2^64)(hb:b<2^64):i6 .or (.int .u64 (a:Int)) (.int .u64 (b:Int))=some (.int .u64 ((a ||| b:Nat):Int)):=by
 rw[e2A]
 show some (D.int .u64 (IntKind.u64.wrap ((BitVec.ofInt 64 (a:Int) ||| BitVec.ofInt 64 (b:Int)).toNat:Int)))=_
 rw[BitVec.toNat_or,a6g,a6g,Nat.mod_eq_of_lt ha,Nat.mod_eq_of_lt hb,b7A (Nat.or_lt_two_pow ha hb)]
theorem d1J{a i:Nat}(hi:i≤64):i6 .shr (.int .u64 (a:Int)) (.int .i64 (i:Int))=some (.int .u64 ((a / 2^i:Nat):Int)):=by
 rw[c7v _ _ _ _ (by omega),Int.toNat_natCast,show IntKind.u64.bits=64 from rfl,Nat.min_eq_left hi,Int.fdiv_eq_ediv_of_nonneg _ (Int.le_of_lt (Int.pow_pos (by decide)))]
 simp
theorem c2r{a i:Nat}(hi:i≤64)(h:a*2^i<2^64):i6 .shl (.int .u64 (a:Int)) (.int .i64 (i:Int))=some (.int .u64 ((a*2^i:Nat):Int)):=by
 rw[d6p _ _ _ _ (by omega),Int.toNat_natCast,show IntKind.u64.bits=64 from rfl,Nat.min_eq_left hi]
 have e:(a:Int)*2^i=((a*2^i:Nat):Int):=by simp
 rw[e,b7A h]
theorem c9d{a b i:Nat}(h:a<2^i):a ||| (b*2^i)=a+b*2^i:=by
 have:=Nat.two_pow_add_eq_or_of_lt h b
 rw[Nat.or_comm,Nat.mul_comm b, ←this,Nat.add_comm]
theorem c1c(n:Int):IntKind.u64.wrap n=(((n % 18446744073709551616).toNat:Nat):Int):=by rw[a2z];omega
section
variable{E:j6}{w0:World}
theorem a5F{u:Int}{s:Nat}(h1:1≤s)(h8:s≤8):L1 Tryz.prog E w0 a1W [.int .u64 u, .int .i64 (s:Int)] (bD (F6 u s)):=fun x S0=>by
 refine c5o ?_
 unfold c2F
 have c1:decide ((s:Int)<1)=false:=decide_eq_false (by omega)
 have c2:decide ((s:Int)>8)=false:=decide_eq_false (by omega)
 simp only[A5,a4I,oD,c1,c2,C5,beq_self_eq_true,P7,C3,Bool.false_eq_true,if_false,cdF]
 refine e2t (by omega) fun k acs hk=> ?_
 refine c0A (I:=fun n x0 x5 x15 x16 S=>∃(acs:List AV) (i:Nat),i+n=s∧x0= .int .u64 u∧x5= .raw k 0 s s true 1∧x15= .int .i64 (s:Int)∧x16= .int .i64 (i:Int)∧
   S=S0.set k ⟨1,y9 ((F6 u i++List.replicate n 0).map (D.int .u8)),acs⟩) ?_ (n:=s) ⟨acs,0,by omega,rfl,rfl,rfl,rfl,by simp[F6,y9]⟩
 rintro n _ _ _ _ _ ⟨acs,i,hi,rfl,rfl,rfl,rfl,rfl⟩
 unfold a8c
 rw[A5,oD,B3]
 refine⟨fun hlt=> ?_,fun hge=> ?_⟩
 ·obtain⟨n,rfl⟩:∃m,n=m+1:=⟨n - 1,by omega⟩
  rw[d0Q,oD,j8 (by omega) (by omega),c7v _ _ _ _ (by omega),oD,cvI,oD,e0Q (by omega),oD,Nat.zero_add]
  have hb:IntKind.u8.wrap (u.fdiv (2^(min (8*(i:Int)).toNat IntKind.u64.bits)))=a2V u i:=by
   rw[b0y,show(8*(i:Int)).toNat=8*i by omega,show IntKind.u64.bits=64 from rfl,Nat.min_eq_left (by omega),Int.fdiv_eq_ediv_of_nonneg _ (Int.le_of_lt (Int.pow_pos (by decide)))]
   rfl
  rw[hb]
  have hf:F6 u (i+1)=F6 u i++[a2V u i]:=by simp[F6,List.range_succ]
  have hl:=s7 u i
  refine stR (b9.set_same _ _ _) (b5s (d:= .int .u8 0) ?_) (clI _ _) ⟨rfl,by omega,by simp⟩ fun acs'=> ?_
  ·rw[List.getElem?_map,List.getElem?_append,if_neg (by omega),hl,Nat.sub_self]
   rfl
  ·rw[s8,oD,j8 (by omega) (by omega)]
   refine⟨n,by omega,acs',i+1,by omega,rfl,rfl,rfl,rfl, ?_⟩
   rw[b9.set_set]
   congr 2
   show(y9 _).set i [.int .u8 (a2V u i)]=_
   rw[d4w, ←List.map_set,hf,List.append_assoc]
   congr 2
   rw[List.set_append,if_neg (by omega),hl,Nat.sub_self]
   rfl
 ·obtain rfl:i=s:=by omega
  obtain rfl:n=0:=by omega
  refine i9.frz hk ?_
  rw[d6v (by simp[s7]) (Nat.le_refl _)]
  have:((y9 ((F6 u i++List.replicate 0 0).map (D.int .u8))).drop 0).take i=y9 ((F6 u i).map (D.int .u8)):=by
   simp only[List.replicate_zero,List.append_nil,List.drop_zero]
   exact List.take_of_length_le (by simp[s7])
  rw[this]
  exact i9.pure
theorem d2P{bs:List Int}(hb:∀b∈bs,Y9 b)(hl:bs.length<2^60){p s:Nat}(hp:p≤bs.length)(h1:1≤s)(h8:s≤8):L1 Tryz.prog E w0 b5Z [bD bs, .int .i64 (p:Int), .int .i64 (s:Int)]
  (if bs.length<p+s then .tup [.int .u64 0, .int .i64 0, .int .i64 10]else .tup [.int .u64 (leN ((bs.drop p).take s):Nat), .int .i64 ((p+s:Nat):Int), .int .i64 0]):=fun x S=>by
 refine c9D ?_
 unfold c5a
 have c1:decide ((s:Int)<1)=false:=decide_eq_false (by omega)
 have c2:decide ((s:Int)>8)=false:=decide_eq_false (by omega)
 have c3:decide ((p:Int)<0)=false:=decide_eq_false (by omega)
 have c4:decide ((p:Int)>bs.length)=false:=decide_eq_false (by omega)
 simp only[A5,a4I,oD,c1,c2,c3,cdF,I8,c4]
 unfold a2v
 simp only[cdF,I8,oD,a4S,a4I]
 rw[j8 (by omega) (by omega),B3]
 refine⟨fun hs=> ?_,fun hs=> ?_⟩
 ·rw[if_pos (by omega)];exact i9.pure
 rw[if_neg (by omega)]
 refine c3S (I:=fun n x0 x1 x2 x9 x29 x30 S'=>S'=S∧x0=bD bs∧x1= .int .i64 (p:Int)∧x2= .int .i64 (s:Int)∧x29= .int .i64 (s:Int)∧∃i:Nat,x30= .int .i64 (i:Int)∧i+n=s∧x9= .int .u64 ((leN ((bs.drop p).take i):Nat):Int)) ?_ (n:=s)
  ⟨rfl,rfl,rfl,rfl,rfl,0,rfl,by omega,rfl⟩
 rintro n _ _ _ _ _ _ _ ⟨rfl,rfl,rfl,rfl,rfl,i,rfl,hi,rfl⟩
 unfold b1c
 rw[A5,oD,B3]
 refine⟨fun hlt=> ?_,fun hge=> ?_⟩
 ·have hlt2:p+i<bs.length:=by omega
  obtain⟨y,hy⟩:∃y,y=bs[p+i]:=⟨_,rfl⟩
  have hj:bs[p+i]? =some y:=by rw[List.getElem?_eq_getElem hlt2,hy]
  obtain⟨b0,b1⟩:=hb y (by rw[hy];exact List.getElem_mem _)
  obtain⟨xn,hxn⟩:∃xn:Nat,y=(xn:Int):=⟨y.toNat,by omega⟩
  have hbs:∀b∈(bs.drop p).take i,Y9 b:=fun b hb'=>hb b (List.mem_of_mem_drop (List.mem_of_mem_take hb'))
  have hlen:((bs.drop p).take i).length=i:=by rw[List.length_take,List.length_drop];omega
  have e3:=b6d hbs
  rw[hlen]at e3
  have htk:(bs.drop p).take (i+1)=(bs.drop p).take i++[y]:=by
   rw[List.take_add_one,List.getElem?_drop,hj];rfl
  have hsn:=c8n ((bs.drop p).take i) y
  rw[←htk,hlen]at hsn
  have e4:=b6d (l:=(bs.drop p).take (i+1)) fun b hb'=>hb b (List.mem_of_mem_drop (List.mem_of_mem_take hb'))
  rw[show((bs.drop p).take (i+1)).length=i+1 by rw[List.length_take,List.length_drop];omega]at e4
  have h3:2^(8*(i+1))≤2^64:=Nat.pow_le_pow_right (by decide) (by omega)
  have h4:2^(8*i)≤2^64:=Nat.pow_le_pow_right (by decide) (by omega)
  have hxt:y.toNat=xn:=by omega
  rw[hxt]at hsn
  rw[s8,oD,j8 (by omega) (by omega),show(p:Int)+(i:Int)=((p+i:Nat):Int) by omega,c4I hj,oD,lsE,List.getElem?_cons_zero,oD,cvI,oD,hxn,b7A (by omega),d0Q,oD,j8 (by omega) (by omega),
   show 8*(i:Int)=((8*i:Nat):Int) by omega,c2r (by omega) (by omega),oD,d2Z (by omega) (by omega),oD,c9d e3,s8,oD,j8 (by omega) (by omega)]
  exact⟨n - 1,by omega,rfl,rfl,rfl,rfl,rfl,i+1,by simp,by omega,by simp only[hsn]⟩
 ·obtain rfl:i=s:=by omega
  rw[s8,oD,j8 (by omega) (by omega),show(p:Int)+(i:Int)=((p+i:Nat):Int) by omega]
  exact i9.pure
end
end
end Go.Proofs.YtchnpgddpaonhaaGreat.d
end
