/-
  BlocksReachesSaid: part Mas of its proof.
-/
import Derived.Test.YtdkidgkiplcggaaMar
set_option linter.unusedVariables false
set_option linter.unusedSimpArgs false
set_option maxRecDepth 100000
section
namespace Go.Am
section
variable{P:Program}{E:d6}{w0:i5}
@[simp] theorem oD{α:Type}(a:α)(Q:α→Prop):b5 (some a) Q=Q a:=(rfl)
@[simp] theorem cdT(a b:Prop):g8 (.bool true) a b=a:=(rfl)
@[simp] theorem cdF(a b:Prop):g8 (.bool false) a b=b:=(rfl)
theorem cdB(t:Bool)(a b:Prop):g8 (.bool t) a b↔(t=true→a)∧(t=false→b):=by cases t<;>simp
theorem cdI(p:Prop)[Decidable p](a b:Prop):g8 (.bool (decide p)) a b↔(p→a)∧(¬p→b):=by
 by_cases h:p<;>simp[h]
@[simp] theorem gdT(s:(D→b4→Prop)→Prop)(S:b4)(Q:D→b4→Prop):Z6 (some true) s S Q=s Q:=(rfl)
@[simp] theorem gdF(s:(D→b4→Prop)→Prop)(S:b4)(Q:D→b4→Prop):Z6 (some false) s S Q=Q a8 S:=(rfl)
@[simp] theorem vdT(r:Option D):d9 (some true) r=r:=(rfl)
@[simp] theorem vdF(r:Option D):d9 (some false) r=some a8:=(rfl)
@[simp] theorem wdB(b w:Bool):b7 (.bool b) w=some (b==w):=(rfl)
@[simp] theorem wdU(w:Bool):b7 a8 w=some false:=(rfl)
@[simp] theorem pdB(t:Bool)(a b:D):H5 (.bool t) a b=some (if t then a else b):=(rfl)
@[simp] theorem exD(vs:List D)(i:Nat):u4 (.tup vs) i=vs[i]? :=(rfl)
@[simp] theorem ndP(k i:Nat):a3O (.ptr k i)=some (.ptr k i):=(rfl)
@[simp] theorem ndR(k r i sz:Nat):a3O (.rel k r i sz)=some (.rel k r i sz):=(rfl)
@[simp] theorem ndE(row:List D)(i:Nat):a3O (.elt row i)=some (.elt row i):=(rfl)
@[simp] theorem ndF(f:FuncId)(a b:List D):a3O (.fn (.func f) a b)=some (.fn (.func f) a b):=(rfl)
@[simp] theorem ndI(t:TypeId)(v:D):a3O (.ifc t v)=some (.ifc t v):=(rfl)
@[simp] theorem ofP(k i o:Nat):t8 o (.ptr k i)=some (.ptr k (i+o)):=(rfl)
@[simp] theorem ofR(k r i sz o:Nat):t8 o (.rel k r i sz)=some (.rel k r (i+o) sz):=(rfl)
@[simp] theorem ofE(row:List D)(i o:Nat):t8 o (.elt row i)=some (.elt row (i+o)):=(rfl)
@[simp] theorem paA(off n:Nat)(cs:List D):b7K off n (.agg cs)=some (.agg ((cs.drop off).take n)):=(rfl)
@[simp] theorem psA(off:Nat)(cs:List D):b6J off (.agg cs)=cs[off]? :=(rfl)
@[simp] theorem lnN:m6 .nilSlc=some (.int .i64 0):=(rfl)
@[simp] theorem lnL(rows:List (List D))(sz:Nat):m6 (.lst rows sz)=some (.int .i64 rows.length):=(rfl)
@[simp] theorem lnE(rows more:List (List D))(sz:Nat):m6 (.ext rows more sz)=some (.int .i64 rows.length):=(rfl)
@[simp] theorem lnR(k i len cap:Nat)(ex:Bool)(sz:Nat):m6 (.raw k i len cap ex sz)=some (.int .i64 len):=(rfl)
@[simp] theorem lnS(s:List UInt8):c0r (.str s)=some (.int .i64 s.length):=(rfl)
@[simp] theorem cvI(k k':IntKind)(n:Int):V3 k (.int k' n)=some (.int k (k.wrap n)):=(rfl)
@[simp] theorem cvS(s:List UInt8):b7n (.str s)=some (.str s):=(rfl)
@[simp] theorem unN(b:Bool):unD .not (.bool b)=some (.bool !b):=(rfl)
@[simp] theorem unM(k:IntKind)(n:Int):unD .neg (.int k n)=some (.int k (k.wrap (0 - n))):=(rfl)
@[simp] theorem C6(k:IntKind)(a b:Int):d4 .add (.int k a) (.int k b)=some (.int k (k.wrap (a+b))):=by simp[d4,H6,P0]
@[simp] theorem a3V(k:IntKind)(a b:Int):d4 .sub (.int k a) (.int k b)=some (.int k (k.wrap (a - b))):=by simp[d4,H6,P0]
@[simp] theorem c5i(k:IntKind)(a b:Int):d4 .mul (.int k a) (.int k b)=some (.int k (k.wrap (a*b))):=by simp[d4,H6,P0]
@[simp] theorem a7j(k:IntKind)(a b:Int):d4 .eql (.int k a) (.int k b)=some (.bool (a==b)):=by simp[d4,H6,P0]
@[simp] theorem a9f(k:IntKind)(a b:Int):d4 .neq (.int k a) (.int k b)=some (.bool (a != b)):=by simp[d4,H6,P0]
@[simp] theorem V6(k:IntKind)(a b:Int):d4 .lss (.int k a) (.int k b)=some (.bool (decide (a<b))):=by simp[d4,H6,P0]
@[simp] theorem c8n(k:IntKind)(a b:Int):d4 .leq (.int k a) (.int k b)=some (.bool (decide (a≤b))):=by simp[d4,H6,P0]
@[simp] theorem b2q(k:IntKind)(a b:Int):d4 .gtr (.int k a) (.int k b)=some (.bool (decide (a>b))):=by simp[d4,H6,P0]
@[simp] theorem c4b(k:IntKind)(a b:Int):d4 .geq (.int k a) (.int k b)=some (.bool (decide (a≥b))):=by simp[d4,H6,P0]
@[simp] theorem c8i(k:IntKind)(a b:Int):d4 .and (.int k a) (.int k b)=some (.int k (k.wrap (BitVec.ofInt k.bits a &&& BitVec.ofInt k.bits b).toNat)):=by simp[d4,H6,P0]
@[simp] theorem c7y(k:IntKind)(a b:Int):d4 .or (.int k a) (.int k b)=some (.int k (k.wrap (BitVec.ofInt k.bits a ||| BitVec.ofInt k.bits b).toNat)):=by simp[d4,H6,P0]
@[simp] theorem c8d(k:IntKind)(a b:Int):d4 .xor (.int k a) (.int k b)=some (.int k (k.wrap (BitVec.ofInt k.bits a ^^^ BitVec.ofInt k.bits b).toNat)):=by simp[d4,H6,P0]
theorem c5b(k k':IntKind)(a:Int)(b:Int)(h:0≤b):d4 .shl (.int k a) (.int k' b)=some (.int k (k.wrap (a*2^(min b.toNat k.bits)))):=by simp only[d4];rw[if_neg (by omega)]
@[simp] theorem c8f(a b:List UInt8):c2g .add (.str a) (.str b)=if((a.length+b.length:Nat):Int)≤IntKind.i64.max then some (.str (a++b)) else none:=by
 simp only[c2g,a3k];split<;>rfl
@[simp] theorem c8u(a b:List UInt8):c2g .eql (.str a) (.str b)=some (.bool (a==b)):=(rfl)
@[simp] theorem c8l(a b:List UInt8):c2g .neq (.str a) (.str b)=some (.bool !(a==b)):=(rfl)
@[simp] theorem eqE(b:Bool):b5f .eql (some b)=some (.bool b):=(rfl)
@[simp] theorem eqN(b:Bool):b5f .neq (some b)=some (.bool !b):=(rfl)
@[simp] theorem c8q(a b:Bool):c5Q (.bool a) (.bool b)=some (a==b):=(rfl)
@[simp] theorem clB(b:Bool):s6 (.bool b)=some [.bool b]:=(rfl)
@[simp] theorem clI(k:IntKind)(n:Int):s6 (.int k n)=some [.int k n]:=(rfl)
@[simp] theorem clS(s:List UInt8):s6 (.str s)=some [.str s]:=(rfl)
@[simp] theorem clN:s6 .nilSlc=some [.nilSlc]:=(rfl)
@[simp] theorem clP:s6 .nilPtr=some [.nilPtr]:=(rfl)
@[simp] theorem clF:s6 .nilFn=some [.nilFn]:=(rfl)
@[simp] theorem clL(rows:List (List D))(sz:Nat):s6 (.lst rows sz)=some [.lst rows sz]:=(rfl)
@[simp] theorem clE(rows more:List (List D))(sz:Nat):s6 (.ext rows more sz)=some [.ext rows more sz]:=(rfl)
@[simp] theorem clR(k i len cap:Nat)(ex:Bool)(sz:Nat):s6 (.raw k i len cap ex sz)=some [.raw k i len cap ex sz]:=(rfl)
@[simp] theorem clA(cs:List D):s6 (.agg cs)=some cs:=(rfl)
@[simp] theorem c8r(k i:Nat):s6 (.ptr k i)=some [.ptr k i]:=(rfl)
@[simp] theorem c8p(f:Fn)(a b:List D):s6 (.fn f a b)=some [.fn f a b]:=(rfl)
@[simp] theorem c8o(t:TypeId)(v:D):s6 (.ifc t v)=some [.ifc t v]:=(rfl)
@[simp] theorem agS(cs:List D):E4 (some cs)=some (.agg cs):=(rfl)
@[simp] theorem fiN(cs:List D):s9 cs []=some cs:=(rfl)
@[simp] theorem frN(sz:Nat)(rows:List (List D)):s4 sz rows []=some rows:=(rfl)
@[simp] theorem lsE(row:List D)(i:Nat)(S:b4):c9 S (.elt row i)=row[i]? :=(rfl)
@[simp] theorem laE(row:List D)(i n:Nat)(S:b4):s8 S n (.elt row i)=if 0<n∧i+n≤row.length then some (.agg ((row.drop i).take n)) else none:=(rfl)
@[simp] theorem mxD(k:IntKind)(a b:Int):a9x true [.int k a, .int k b]=some (.int k (if b>a then b else a)):=(rfl)
@[simp] theorem mnD(k:IntKind)(a b:Int):a9x false [.int k a, .int k b]=some (.int k (if b<a then b else a)):=(rfl)
theorem b5t{rows:List (List D)}{sz i:Nat}{row:List D}(h:rows[i]? =some row):j5 sz (.lst rows sz) (.int .i64 (i:Int))=some (.elt row 0):=by
 simp only[j5]
 rw[if_pos ⟨by trivial,by omega⟩,Int.toNat_natCast,h]
theorem c7N{rows more:List (List D)}{sz i:Nat}{row:List D}(h:rows[i]? =some row):j5 sz (.ext rows more sz) (.int .i64 (i:Int))=some (.elt row 0):=by
 simp only[j5]
 rw[if_pos ⟨by trivial,by omega⟩,Int.toNat_natCast,h]
theorem c3K{k i len cap sz j:Nat}{ex:Bool}(h:j<len):j5 sz (.raw k i len cap ex sz) (.int .i64 (j:Int))=some (.rel k (i+j) 0 sz):=by
 simp only[j5]
 rw[if_pos ⟨by trivial,by omega,by omega⟩,Int.toNat_natCast]
theorem b4.fresh{S:b4}{j k:Nat}{o:u7}(h:(S.set j o) k=Option.none):k≠j∧S k=Option.none:=by
 unfold b4.set at h
 split at h
 ·cases h
 ·rename_i e;exact⟨e,h⟩
theorem b5z{S:b4}{k i sz:Nat}{cs:List D}{acs:List AV}(h:S k=some ⟨sz,[cs],acs⟩):b2g S (.ptr k i)=some (cs,i):=by
 simp only[b2g,h]
theorem c2x{S:b4}{k r i sz:Nat}{rows:List (List D)}{row:List D}{acs:List AV}(h:S k=some ⟨sz,rows,acs⟩)(hr:rows[r]? =some row):b2g S (.rel k r i sz)=some (row,i):=by
 simp only[b2g,h,hr];rfl
theorem ldP{S:b4}{k i sz:Nat}{cs:List D}{acs:List AV}(h:S k=some ⟨sz,[cs],acs⟩):c9 S (.ptr k i)=cs[i]? :=by simp only[c9,b5z h]
theorem laP{S:b4}{k i n sz:Nat}{cs:List D}{acs:List AV}(h:S k=some ⟨sz,[cs],acs⟩)(hn:0<n∧i+n≤cs.length):s8 S n (.ptr k i)=some (.agg ((cs.drop i).take n)):=by
 simp only[s8,b5z h];rw[if_pos hn]
theorem ldR{S:b4}{k r i sz:Nat}{rows:List (List D)}{row:List D}{acs:List AV}(h:S k=some ⟨sz,rows,acs⟩)(hr:rows[r]? =some row):c9 S (.rel k r i sz)=row[i]? :=by simp only[c9,c2x h hr]
theorem stP{S:b4}{k i n sz:Nat}{cs ds:List D}{acs:List AV}{v:D}{K:D→b4→Prop}(h:S k=some ⟨sz,[cs],acs⟩)(hv:s6 v=some ds)(hn:ds.length=n∧0<n∧i+n≤cs.length)
  (hK:∀acs,K a8 (S.set k ⟨sz,[o5 cs i ds],acs⟩)):j4 S n (.ptr k i) v K:=by
 simp only[j4,hv,h]
 rw[if_pos ⟨hn.1,hn.2.1⟩,if_pos hn.2.2]
 exact hK
theorem stR{S:b4}{k r i n sz:Nat}{rows:List (List D)}{row ds:List D}{acs:List AV}{v:D}{K:D→b4→Prop}(h:S k=some ⟨sz,rows,acs⟩)(hr:rows[r]? =some row)(hv:s6 v=some ds)(hn:ds.length=n∧0<n∧i+n≤row.length)
  (hK:∀acs,K a8 (S.set k ⟨sz,rows.set r (o5 row i ds),acs⟩)):j4 S n (.rel k r i sz) v K:=by
 simp only[j4,hv,h,hr]
 rw[if_pos ⟨hn.1,hn.2.1⟩,if_pos (by trivial),if_pos hn.2.2]
 exact hK
theorem b4.set_in(S:b4){k l:Nat}(h:k≠l)(a b c:u7):((S.set k a).set l b).set k c=(S.set k c).set l b:=by
 rw[b4.set_comm S h,b4.set_set,b4.set_comm S h]
theorem b4.le_new{S:b4}{k:Nat}{o:u7}(h:S k=Option.none):S.le (S.set k o):=b4.le_set (b4.le_refl S) h
def Z7(l:List D):List (List D):=l.map fun d=>[d]
@[simp] theorem c5r(l:List D):(Z7 l).length=l.length:=List.length_map _
theorem b8F{l:List D}{i:Nat}{d:D}(h:l[i]? =some d):(Z7 l)[i]? =some [d]:=by simp only[Z7,List.getElem?_map,h];rfl
def Grw(S0:b4)(t:D)(rows:List (List D))(sz:Nat)(S:b4):Prop:=
 (t= .nilSlc∧rows=[]∧S=S0)∨∃k acs,S0 k=Option.none∧t= .raw k 0 rows.length rows.length false sz∧S=S0.set k ⟨sz,rows,acs⟩
theorem Grw.nil(S:b4)(sz:Nat):Grw S .nilSlc [] sz S:= .inl ⟨rfl,rfl,rfl⟩
theorem Grw.le{S0 S:b4}{t:D}{rows:List (List D)}{sz:Nat}(h:Grw S0 t rows sz S):S0.le S:=by
 rcases h with ⟨_,_,rfl⟩|⟨k,acs,h,_,rfl⟩
 ·exact b4.le_refl _
 ·exact b4.le_new h
theorem Grw.len{S0 S:b4}{t:D}{rows:List (List D)}{sz:Nat}(h:Grw S0 t rows sz S):m6 t=some (.int .i64 rows.length):=by
 rcases h with ⟨rfl,rfl,rfl⟩|⟨k,acs,h,rfl,rfl⟩<;>rfl
theorem Grw.push{S0 S:b4}{t:D}{rows:List (List D)}{sz bytes:Nat}(h:Grw S0 t rows sz S){v:D}{news:List (List D)}(hv:rowsS S sz v=some news)(hb:0<bytes∧(2*(rows.length+news.length)+768)*bytes≤2^47){K:D→b4→Prop}
  (hK:∀t' S',Grw S0 t' (rows++news) sz S'→K t' S'):s0 S sz bytes t v K:=by
 simp only[s0,hv]
 rcases h with ⟨rfl,rfl,rfl⟩|⟨k,acs,h,rfl,rfl⟩
 ·simp only[V0]
  by_cases hn:news=[]
  ·rw[if_pos hn]
   exact hK _ _ (.inl ⟨rfl,by rw[hn];rfl,rfl⟩)
  ·rw[if_neg hn]
   refine⟨⟨hb.1,by simpa using hb.2⟩, .inr fun k acs hk=>hK _ _ (.inr ⟨k,acs,hk, ?_, ?_⟩)⟩<;>simp
 ·simp only[V0]
  by_cases hn:news=[]
  ·rw[if_pos hn]
   refine hK _ _ (.inr ⟨k,acs,h, ?_, ?_⟩)<;>simp[hn]
  ·rw[if_neg hn,b4.set_same]
   simp only
   rw[if_pos ⟨by trivial,by trivial,by omega⟩]
   refine⟨hb, .inr fun k' acs' hk'=> ?_⟩
   rw[b4.erase_set _ _ _ h]at hk' ⊢
   refine hK _ _ (.inr ⟨k',acs',hk', ?_, ?_⟩)<;>simp
theorem Grw.swap{S0 S1 S:b4}{t u:D}{r q:List (List D)}{s z:Nat}(h:Grw S0 t r s S1)(h':Grw S1 u q z S):∃S2,Grw S0 u q z S2∧Grw S2 t r s S:=by
 rcases h with ⟨rfl,rfl,rfl⟩|⟨k,acs,hk,rfl,rfl⟩
 ·exact⟨S,h', .inl ⟨rfl,rfl,rfl⟩⟩
 ·rcases h' with ⟨rfl,rfl,rfl⟩|⟨l,bcs,hl,rfl,rfl⟩
  ·exact⟨S0, .inl ⟨rfl,rfl,rfl⟩, .inr ⟨k,acs,hk,rfl,rfl⟩⟩
  ·obtain⟨hne,hl0⟩:=b4.fresh hl
   refine⟨S0.set l ⟨z,q,bcs⟩, .inr ⟨l,bcs,hl0,rfl,rfl⟩, .inr ⟨k,acs, ?_,rfl, ?_⟩⟩
   ·rw[b4.set_ne _ _ _ (Ne.symm hne)];exact hk
   ·exact b4.set_comm _ (Ne.symm hne) _ _
theorem Grw.fin{S0 S:b4}{t:D}{rows:List (List D)}{sz:Nat}(h:Grw S0 t rows sz S){Q:D→b4→Prop}(hq:b9 E Q (.lst rows sz) S0):b9 E Q t S:=by
 rcases h with ⟨rfl,rfl,rfl⟩|⟨k,acs,h,rfl,rfl⟩
 ·exact b9.nil hq
 ·refine b9.freeze (b4.set_same _ _ _) rfl (by simp) (Nat.le_refl _) ?_
  rw[b4.erase_set _ _ _ h]
  simpa using hq
theorem Grw.finT{S0 S:b4}{t:D}{rows:List (List D)}{sz:Nat}(h:Grw S0 t rows sz S){Q:D→b4→Prop}{lp lq:List D}(hq:b9 E Q (.tup (lp++ .lst rows sz::lq)) S0):b9 E Q (.tup (lp++t::lq)) S:=by
 rcases h with ⟨rfl,rfl,rfl⟩|⟨k,acs,h,rfl,rfl⟩
 ·exact b9.nilT hq
 ·refine b9.freezeT (b4.set_same _ _ _) rfl (by simp) (Nat.le_refl _) ?_
  rw[b4.erase_set _ _ _ h]
  simpa using hq
theorem Grw.under{S0 S:b4}{t:D}{rows:List (List D)}{sz:Nat}(h:Grw S0 t rows sz S){k:Nat}{o:u7}(hk:S k=Option.none):Grw (S0.set k o) t rows sz (S.set k o):=by
 rcases h with ⟨rfl,rfl,rfl⟩|⟨l,acs,h,rfl,rfl⟩
 ·exact .inl ⟨rfl,rfl,rfl⟩
 ·obtain⟨hne,hk0⟩:=b4.fresh hk
  refine .inr ⟨l,acs, ?_,rfl,b4.set_comm _ (Ne.symm hne) _ _⟩
  rw[b4.set_ne _ _ _ (Ne.symm hne)];exact h
theorem Grw.drop{S0 S:b4}{t:D}{rows:List (List D)}{sz k:Nat}{o:u7}(h:Grw (S0.set k o) t rows sz S)(hk:S0 k=Option.none):∃S',S'.le S∧Grw S0 t rows sz S':=by
 rcases h with ⟨rfl,rfl,rfl⟩|⟨l,acs,h,rfl,rfl⟩
 ·exact⟨S0,b4.le_new hk, .inl ⟨rfl,rfl,rfl⟩⟩
 ·obtain⟨hne,hl0⟩:=b4.fresh h
  refine⟨S0.set l ⟨sz,rows,acs⟩, ?_, .inr ⟨l,acs,hl0,rfl,rfl⟩⟩
  rw[b4.set_comm _ (Ne.symm hne)]
  refine b4.le_new ?_
  rw[b4.set_ne _ _ _ (Ne.symm hne)];exact hk
theorem Grw.base{S0 S1 S:b4}{t:D}{rows:List (List D)}{sz:Nat}(h:Grw S1 t rows sz S)(hle:S0.le S1):∃S',S'.le S∧Grw S0 t rows sz S':=by
 rcases h with ⟨rfl,rfl,rfl⟩|⟨l,acs,h,rfl,rfl⟩
 ·exact⟨S0,hle, .inl ⟨rfl,rfl,rfl⟩⟩
 ·have hl:S0 l=Option.none:=by
   cases e:S0 l with
   |none=>rfl
   |some o=>rw[hle _ _ e]at h;cases h
  refine⟨S0.set l ⟨sz,rows,acs⟩,fun j o e=> ?_, .inr ⟨l,acs,hl,rfl,rfl⟩⟩
  unfold b4.set at e ⊢
  split at e
  ·rename_i hj;rw[if_pos hj];exact e
  ·rename_i hj;rw[if_neg hj];exact hle _ _ e
theorem I8{S:b4}{sz:Nat}{rows:List (List D)}{len:Nat}{K:D→b4→Prop}(hl:rows.length=len)(h:K (.lst rows sz) S):I4 S sz (some rows) len K:=by
 simp only[I4,oD]
 refine .inl ?_
 rw[List.take_of_length_le (by omega)]
 exact h
theorem c5a{S:b4}{sz:Nat}{rows:List (List D)}{len:Nat}{K:D→b4→Prop}(h:∀k acs,S k=Option.none→K (.raw k 0 len len true sz) (S.set k ⟨sz,rows,acs⟩)):I4 S sz (some rows) len K:=by
 simp only[I4,oD]
 exact .inr h
theorem fwP(k i:Nat)(S S':b4):B3 (.ptr k i) S S'=(S' k=S k):=(rfl)
theorem fwR(x:D)(S:b4):B3 x S S:=by
 unfold B3
 split<;>trivial
end
end Go.Am
end
section
namespace Go.Op
open Go.Am
def a0u(w:Int):Int:=if w=1 then -128 else if w=2 then -2147483648 else if w=3 then -9223372036854775808 else 1
def a0s(w:Int):Int:=if w=1 then 127 else if w=2 then 2147483647 else if w=3 then 9223372036854775807 else 0
def I64(n:Int):Prop:= -9223372036854775808≤n∧n≤9223372036854775807
def b8P(w:Int):Int:=if w=1 then 8 else if w=2 then 32 else if w=3 then 64 else 0
def b6a(w n:Int):Int:=if w=1 then IntKind.i64.wrap (IntKind.i8.wrap n) else if w=2 then IntKind.i64.wrap (IntKind.i32.wrap n) else if w=3 then n else 0
theorem c2L(n:Int):IntKind.u64.wrap n=n % 18446744073709551616:=by
 simp only[IntKind.wrap,IntKind.bits,IntKind.signed];simp
def a8t(n:Int)(i:Nat):Int:=(n / 2^(8*i)) % 256
def a3C(n:Int)(size:Nat):List Int:=(List.range size).map (a8t n)
theorem A4(n:Int)(s:Nat):(a3C n s).length=s:=by simp[a3C]
structure Fld where
 size:Nat
 lo:Int
 hi:Int
 deriving DecidableEq
def fIx:Fld:=⟨2,0,65535⟩
def F4:Fld:=⟨4,0,4294967295⟩
def a8s:Fld:=⟨1,1,3⟩
def c1N(b:Bool)(op:Int):Option (List Fld):=
 if b then some [F4]else if op=52 then some [⟨1,0,255⟩]else if op=49 then some [a8s]
 else if 11≤op∧op≤28 then some [a8s]else if 1≤op∧op≤52 then some []else none
def c2a(b:Bool)(op:Int):Option (List Fld):=
 if b then some [⟨1,1,5⟩]else if op=29 then some [a8s,a8s]else c1N (op==46||op==47||op==48) op
def c1G(b:Bool)(op:Int):Option (List Fld):=if b then some [fIx,fIx]else c2a (op==23||op==24) op
def b9A(b:Bool)(op:Int):Option (List Fld):=if b then some [fIx]else c1G (op==37||op==38) op
def lay(op:Int):Option (List Fld):=
 if op=1 then some [⟨1,a0u 1,a0s 1⟩]else if op=2 then some [⟨4,a0u 2,a0s 2⟩]else if op=3 then some [⟨8,a0u 3,a0s 3⟩]
 else b9A (op==6||op==7||op==8||op==50||op==36||op==39||op==40||op==41||op==42||op==43||op==44||op==45) op
structure In where
 op:Int
 a:Int
 b:Int
 arms:List (Int×Int)
structure In.Ok (x:In):Prop where
 op:0≤x.op∧x.op≤255
 a:I64 x.a
 b:I64 x.b
 arms:∀y∈x.arms,I64 y.1∧I64 y.2
 short:x.arms.length<2^44
def Fld.may(f:Fld)(n:Int):Bool:=decide (f.lo≤n∧n≤f.hi)
def In.num(x:In)(i:Nat):Int:=if i=1 then x.b else x.a
def b1u(x:In):Nat→List Fld→List Int
 |_,[]=>[]
 |i,f::l=>a3C (x.num i) f.size++b1u x (i+1) l
def b3H(x:In):Nat→List Fld→Bool
 |_,[]=>true
 |i,f::l=>f.may (x.num i)&&b3H x (i+1) l
def c5U(y:Int×Int):List Int:=a3C y.1 8++a3C y.2 4
def b9a(w:Int)(y:Int×Int):Bool:=decide (a0u w≤y.1∧y.1≤a0s w)&&decide (0≤y.2∧y.2≤4294967295)
def isS(x:In):Bool:=
 (lay x.op).isSome&&b3H x 0 ((lay x.op).getD [])&&
  if x.op=49 then decide (x.arms.length≤65535)&&x.arms.all (b9a (IntKind.u8.wrap x.a))&&decide (0≤x.b∧x.b≤4294967295)
  else decide (x.arms.length=0)&&(decide (2≤((lay x.op).getD []).length)||decide (x.b=0))&&(decide (1≤((lay x.op).getD []).length)||decide (x.a=0))
def a7B(arms:List (Int×Int)):List Int:=arms.flatMap c5U
def b3y(x:In):List Int:=x.op::b1u x 0 ((lay x.op).getD [])++if x.op=49 then a3C x.arms.length 2++a7B x.arms++a3C x.b 4 else[]
def a9b(l:Option (List Fld)):Bool:=(l.getD []).all (fun f=>decide (1≤f.size∧f.size≤8))&&decide ((l.getD []).length≤2)
theorem c3i{c:Prop}[Decidable c]{a b:Option (List Fld)}(ha:a9b a=true)(hb:a9b b=true):a9b (if c then a else b)=true:=by
 by_cases h:c
 ·rw[if_pos h];exact ha
 ·rw[if_neg h];exact hb
theorem c3f(op:Int):a9b (lay op)=true:=by
 unfold lay b9A c1G c2a c1N
 repeat' apply c3i
 all_goals rfl
theorem b3t{op:Int}:((lay op).getD []).length≤2:=by
 have h:=c3f op
 simp only[a9b,Bool.and_eq_true,List.all_eq_true,decide_eq_true_eq]at h
 exact h.2
theorem a5f:∀l:List (Int×Int),(a7B l).length=12*l.length
 | []=>rfl
 |y::l=>by
  have:=a5f l
  simp only[a7B,List.flatMap_cons,List.length_append,c5U,A4,List.length_cons]at this ⊢
  omega
def leN:List Int→Nat
 | []=>0
 |b::l=>b.toNat+256*leN l
def W3(b:Int):Prop:=0≤b∧b≤255
theorem c1O(n:Int)(s:Nat):a3C n (s+1)=a8t n 0::a3C (n / 256) s:=by
 unfold a3C
 rw[List.range_succ_eq_map,List.map_cons,List.map_map]
 congr 1
 refine List.map_congr_left fun i _=> ?_
 simp only[Function.comp,a8t]
 rw[show 8*(i+1)=8+8*i by omega,Int.pow_add, ←Int.ediv_ediv_of_nonneg (by decide)]
 rfl
theorem c3p(n:Int)(s:Nat):∀b∈a3C n s,W3 b:=by
 intro b hb
 obtain⟨i,_,rfl⟩:=List.mem_map.1 hb
 unfold a8t W3
 omega
theorem c1v:∀(s:Nat) (n:Int),(leN (a3C n s):Int)=n % 2^(8*s)
 |0,n=>by simp[a3C,leN,Int.emod_one]
 |s+1,n=>by
  have ih:=c1v s (n / 256)
  rw[c1O,leN]
  have hM:(0:Int)<2^(8*s):=Int.pow_pos (by decide)
  have hp:(2:Int)^(8*(s+1))=256*2^(8*s):=by rw[show 8*(s+1)=8+8*s by omega,Int.pow_add];rfl
  have hb:((a8t n 0).toNat:Int)=n % 256:=by
   have:a8t n 0=n % 256:=by simp[a8t]
   rw[this];omega
  rw[Int.natCast_add,Int.natCast_mul,ih,hb,hp]
  have h1:=Int.emod_nonneg (n / 256) (show(2:Int)^(8*s)≠0 by omega)
  have h2:=Int.emod_lt_of_pos (n / 256) hM
  have h3:=Int.mul_ediv_add_emod (n / 256) (2^(8*s))
  have h4:=Int.mul_ediv_add_emod n 256
  refine((Int.ediv_emod_unique (a:=n) (b:=256*2^(8*s)) (q:=n / 256 / 2^(8*s)) (by omega)).2 ⟨?_,by omega, ?_⟩).2.symm
  ·have:256*2^(8*s)*(n / 256 / 2^(8*s))=256*(2^(8*s)*(n / 256 / 2^(8*s))):=by rw[Int.mul_assoc]
   rw[this]
   omega
  ·omega
theorem c0U:∀ {l m:List Int},(∀b∈l,W3 b)→(∀b∈m,W3 b)→l.length=m.length→leN l=leN m→l=m
 | [],[],_,_,_,_=>rfl
 | [],b::m,_,_,h,_=>by simp at h
 |a::l,[],_,_,h,_=>by simp at h
 |a::l,b::m,hl,hm,h,e=>by
  obtain⟨a0,a1⟩:=hl a (by simp)
  obtain⟨b0,b1⟩:=hm b (by simp)
  simp only[leN]at e
  have hab:a=b:=by omega
  have hlm:leN l=leN m:=by omega
  rw[hab,c0U (fun x hx=>hl x (by simp[hx])) (fun x hx=>hm x (by simp[hx])) (by simpa using h) hlm]
theorem b4o:∀ {l:List Int},(∀b∈l,W3 b)→leN l<2^(8*l.length)
 | [],_=>by simp[leN]
 |a::l,h=>by
  obtain⟨a0,a1⟩:=h a (by simp)
  have ih:=b4o (fun x hx=>h x (by simp[hx]):∀b∈l,W3 b)
  have hp:2^(8*(l.length+1))=256*2^(8*l.length):=by rw[show 8*(l.length+1)=8+8*l.length by omega,Nat.pow_add]
  rw[leN,List.length_cons,hp]
  omega
def a7C(f:Fld):Prop:=1≤f.size∧((f.size≤7∧0≤f.lo∧f.hi<2^(8*f.size))∨(f.size≤7∧ -(2^(8*f.size - 1))≤f.lo∧f.hi<2^(8*f.size - 1))∨(f.size=8∧ -9223372036854775808≤f.lo∧f.hi≤9223372036854775807))
def rdN(f:Fld)(u:Nat):Option Int:=
 let n:=IntKind.i64.wrap (u:Int)
 let n':=if f.may n=false∧f.size<8 then n - 2^(8*f.size) else n
 if f.may n'=true then some n' else none
theorem c4x(z:Int):IntKind.i64.wrap z % 18446744073709551616=z % 18446744073709551616:=by
 simp only[IntKind.wrap,IntKind.bits,IntKind.signed];simp
 split<;>omega
theorem c4L{f:Fld}{u:Nat}{n:Int}(h:rdN f u=some n)(h8:f.size≤8):f.may n=true∧n % 2^(8*f.size)=(u:Int) % 2^(8*f.size):=by
 unfold rdN at h
 simp only at h
 obtain⟨n',hn'⟩:∃n',n'=if f.may (IntKind.i64.wrap (u:Int))=false∧f.size<8 then IntKind.i64.wrap (u:Int) - 2^(8*f.size) else IntKind.i64.wrap (u:Int):=⟨_,rfl⟩
 rw[←hn']at h
 have hw:IntKind.i64.wrap (u:Int) % 2^(8*f.size)=(u:Int) % 2^(8*f.size):=by
  have hd:((2:Int)^(8*f.size)) ∣ 18446744073709551616:=by
   refine⟨2^(64 - 8*f.size), ?_⟩
   rw[←Int.pow_add,show 8*f.size+(64 - 8*f.size)=64 by omega]
   rfl
  rw[←Int.emod_emod_of_dvd _ hd,c4x,Int.emod_emod_of_dvd _ hd]
 split at h
 ·rename_i hm
  cases h
  refine⟨hm, ?_⟩
  rw[hn']
  split
  ·rw[Int.sub_emod_right];exact hw
  ·exact hw
 ·cases h
def B1(bs:List Int)(f:Fld)(s:Nat×Int):Int×Nat×Int:=
 if s.2≠0 then(0,s.1,s.2) else if bs.length<s.1+f.size then(0,s.1,10) else
 match rdN f (leN ((bs.drop s.1).take f.size)) with
 |some n=>(n,s.1+f.size,0)
 |none=>(0,s.1,120)
theorem c1q{bs:List Int}{f:Fld}{s:Nat×Int}(h:s.2≠0):B1 bs f s=(0,s):=by
 unfold B1
 rw[if_pos h]
theorem c5t{bs:List Int}(hb:∀b∈bs,W3 b){f:Fld}(h8:f.size≤8){at_:Nat}{n:Int}{at':Nat}(h:B1 bs f (at_,0)=(n,at',0)):f.may n=true∧at'=at_+f.size∧at'≤bs.length∧(bs.drop at_).take f.size=a3C n f.size:=by
 unfold B1 at h
 rw[if_neg (by simp)]at h
 split at h
 ·cases h
 rename_i hlen
 simp only at h hlen
 split at h
 ·rename_i m hm
  cases h
  obtain⟨g1,g2⟩:=c4L hm h8
  have hbs:∀b∈(bs.drop at_).take f.size,W3 b:=fun b hb'=>hb b (List.mem_of_mem_drop (List.mem_of_mem_take hb'))
  have hl:((bs.drop at_).take f.size).length=f.size:=by rw[List.length_take,List.length_drop];omega
  refine⟨g1,rfl,by omega,c0U hbs (c3p _ _) (by rw[hl,A4]) ?_⟩
  have e1:=c1v f.size n
  have e2:=b4o hbs
  rw[hl]at e2
  have e3:((leN ((bs.drop at_).take f.size):Nat):Int)<2^(8*f.size):=by exact_mod_cast e2
  rw[g2,Int.emod_eq_of_lt (by omega) e3]at e1
  omega
 ·cases h
def vF(w:Int):Fld:=⟨8,a0u w,a0s w⟩
def G5(bs:List Int)(w:Int):Nat→Nat×Int→List (Int×Int)→List (Int×Int)×(Nat×Int)
 |0,s,acc=>(acc,s)
 |n+1,s,acc=>if s.2≠0 then(acc,s) else
  G5 bs w n (B1 bs F4 (B1 bs (vF w) s).2).2 (acc++[((B1 bs (vF w) s).1,(B1 bs F4 (B1 bs (vF w) s).2).1)])
def J7(bs:List Int):List Fld→Nat×Int→Int×Int×(Nat×Int)
 | [],s=>(0,0,s)
 | [f],s=>((B1 bs f s).1,0,(B1 bs f s).2)
 |f::g::_,s=>((B1 bs f s).1,(B1 bs g (B1 bs f s).2).1,(B1 bs g (B1 bs f s).2).2)
abbrev Dat:=Int×Int×Int×List (Int×Int)
def a4j(bs:List Int)(op a:Int)(s:Nat×Int):Dat×(Nat×Int):=
 ((op,a,(B1 bs F4 (G5 bs (IntKind.u8.wrap a) (B1 bs fIx s).1.toNat (B1 bs fIx s).2 []).2).1,(G5 bs (IntKind.u8.wrap a) (B1 bs fIx s).1.toNat (B1 bs fIx s).2 []).1),
  (B1 bs F4 (G5 bs (IntKind.u8.wrap a) (B1 bs fIx s).1.toNat (B1 bs fIx s).2 []).2).2)
def b1n(bs:List Int)(at_:Nat):Dat×(Nat×Int):=
 if bs.getD at_ 0=49 then a4j bs 49 (J7 bs ((lay (bs.getD at_ 0)).getD []) (at_+1,0)).1 (J7 bs ((lay (bs.getD at_ 0)).getD []) (at_+1,0)).2.2
 else((bs.getD at_ 0,(J7 bs ((lay (bs.getD at_ 0)).getD []) (at_+1,0)).1,(J7 bs ((lay (bs.getD at_ 0)).getD []) (at_+1,0)).2.1,[]),(J7 bs ((lay (bs.getD at_ 0)).getD []) (at_+1,0)).2.2)
def b9Y:Dat:=(0,0,0,[])
def b5g(bs:List Int)(at_:Nat):Dat×(Nat×Int):=
 if lay (bs.getD at_ 0)=none then(b9Y,(0,120)) else if(b1n bs at_).2.2≠0 then(b9Y,(0,(b1n bs at_).2.2)) else b1n bs at_
def In.dat(x:In):Dat:=(x.op,x.a,x.b,x.arms)
theorem c2v{c:Prop}[Decidable c]{a b:Option (List Fld)}(ha:∀f∈a.getD [],a7C f)(hb:∀f∈b.getD [],a7C f):∀f∈(if c then a else b).getD [],a7C f:=by
 by_cases h:c
 ·rw[if_pos h];exact ha
 ·rw[if_neg h];exact hb
theorem b5Y(op:Int):∀f∈(lay op).getD [],a7C f:=by
 unfold lay b9A c1G c2a c1N
 repeat' apply c2v
 all_goals (intro f hf;simp only[Option.getD_some,Option.getD_none,List.mem_cons,List.not_mem_nil,or_false,or_self,false_or,fIx,F4,a8s]at hf)
 all_goals (subst hf)
 all_goals (first|exact⟨by decide, .inl ⟨by decide,by decide,by decide⟩⟩|exact⟨by decide, .inr (.inl ⟨by decide,by decide,by decide⟩)⟩|exact⟨by decide, .inr (.inr ⟨by decide,by decide,by decide⟩)⟩)
theorem b4d:a7C F4:=⟨by decide, .inl ⟨by decide,by decide,by decide⟩⟩
theorem c4v(w:Int):a7C (vF w):=by
 refine⟨by show 1≤8;omega, .inr (.inr ⟨rfl, ?_, ?_⟩)⟩
 ·show _≤a0u w
  unfold a0u
  repeat' split
  all_goals omega
 ·show a0s w≤_
  unfold a0s
  repeat' split
  all_goals omega
theorem c4A(w:Int)(y:Int×Int):b9a w y=((vF w).may y.1&&F4.may y.2):=rfl
theorem b5Q{x:In}(h:isS x=true):∃l,lay x.op=some l∧b3H x 0 l=true∧(x.op=49→x.arms.length≤65535∧x.arms.all (b9a (IntKind.u8.wrap x.a))=true∧F4.may x.b=true)∧(x.op≠49→x.arms=[]∧(l.length<2→x.b=0)∧(l.length<1→x.a=0)):=by
 unfold isS at h
 cases hl:lay x.op with
 |none=>rw[hl]at h;simp at h
 |some l=>
  rw[hl]at h
  simp only[Option.isSome_some,Bool.true_and,Option.getD_some,Bool.and_eq_true]at h
  refine⟨l,rfl,h.1,fun h49=> ?_,fun h49=> ?_⟩
  ·have h2:=h.2
   rw[if_pos h49]at h2
   simp only[Bool.and_eq_true,decide_eq_true_eq]at h2
   exact⟨h2.1.1,h2.1.2,by unfold Fld.may;exact decide_eq_true h2.2⟩
  ·have h2:=h.2
   rw[if_neg h49]at h2
   simp only[Bool.and_eq_true,Bool.or_eq_true,decide_eq_true_eq]at h2
   exact⟨List.length_eq_zero_iff.1 h2.1.1,fun hn=>h2.1.2.resolve_left (by omega),fun hn=>h2.2.resolve_left (by omega)⟩
theorem c5l{l:List Fld}{op:Int}(h:lay op=some l)(h49:op=49):l=[a8s]:=by
 rw[h49]at h
 have:lay 49=some [a8s]:=rfl
 rw[this]at h
 cases h
 rfl
theorem b7Q:∀(l:List Int) (b:Int),leN (l++[b])=leN l+b.toNat*2^(8*l.length)
 | [],b=>by simp[leN]
 |a::l,b=>by
  have hp:2^(8*(l.length+1))=256*2^(8*l.length):=by rw[show 8*(l.length+1)=8+8*l.length by omega,Nat.pow_add]
  rw[List.cons_append,leN,leN,b7Q l b,List.length_cons,hp,Nat.mul_add, ←Nat.add_assoc]
  congr 1
  rw[Nat.mul_left_comm]
theorem b6t{bs:List Int}{f:Fld}{s:Nat×Int}(h:s.1≤bs.length):(B1 bs f s).2.1≤bs.length:=by
 unfold B1
 split
 ·exact h
 split
 ·exact h
 ·split
  ·simp only;omega
  ·exact h
theorem b8I(u:Int):I64 (IntKind.i64.wrap u):=by
 unfold I64
 simp only[IntKind.wrap,IntKind.bits,IntKind.signed];simp
 split<;>omega
def b3x(bs:List Int):Nat→Int→Int→Nat×Int→List Fld→Int×Int×(Nat×Int)
 |_,a,b,s,[]=>(a,b,s)
 |i,a,b,s,f::l=>b3x bs (i+1) (if i=0 then(B1 bs f s).1 else a) (if i=0 then b else(B1 bs f s).1) (B1 bs f s).2 l
theorem c2T{bs:List Int}{s:Nat×Int}:∀ {l:List Fld},l.length≤2→b3x bs 0 0 0 s l=J7 bs l s
 | [],_=>rfl
 | [f],_=>rfl
 | [f,g],_=>rfl
 |_::_::_::_,h=>by simp at h
def A7(bs:List Int)(n:Int):Dat×(Nat×Int):=if n<0∨n≥bs.length then(b9Y,(0,2)) else b5g bs n.toNat
section
variable{bs es:List Int}{i:Nat}{f:Fld}{s sb sE:Nat×Int}
theorem c1Y(h:(B1 bs f s).2.2=0):s.2=0:=by
 by_cases hs:s.2=0
 ·exact hs
 ·rw[c1q hs]at h;exact h
theorem b4O{w:Int}{n:Nat}{acc:List (Int×Int)}(h:s.2≠0):G5 bs w n s acc=(acc,s):=by
 cases n with
 |zero=>rfl
 |succ n=>rw[G5,if_pos h]
theorem a5d{w:Int}{n:Nat}{acc:List (Int×Int)}(h:(G5 bs w n s acc).2.2=0):s.2=0:=by
 by_cases hs:s.2=0
 ·exact hs
 ·rw[b4O hs]at h;exact h
end
theorem c4w(x:In):1≤(b3y x).length:=by unfold b3y;simp
section
variable{bs l m:List Int}{f:Fld}{s:Nat×Int}{p:Nat}
def Seg(bs:List Int)(p:Nat)(l:List Int):Prop:=p+l.length≤bs.length∧(bs.drop p).take l.length=l
theorem Seg.append(h:Seg bs p l)(g:Seg bs (p+l.length) m):Seg bs p (l++m):=by
 obtain⟨h1,h2⟩:=h
 obtain⟨g1,g2⟩:=g
 refine⟨by rw[List.length_append];omega, ?_⟩
 rw[List.length_append,List.take_add,h2,List.drop_drop,g2]
theorem Seg.nil(h:p≤bs.length):Seg bs p []:=⟨by simpa using h,rfl⟩
theorem a7Y(hb:∀b∈bs,W3 b)(h8:f.size≤8)(h:(B1 bs f s).2.2=0):s.2=0∧f.may (B1 bs f s).1=true∧(B1 bs f s).2.1=s.1+f.size∧Seg bs s.1 (a3C (B1 bs f s).1 f.size):=by
 have h0:=c1Y h
 obtain⟨p,e⟩:=s
 simp only at h0
 subst h0
 obtain⟨n,q,e,hr⟩:∃n q e,B1 bs f (p,0)=(n,q,e):=⟨_,_,_,rfl⟩
 rw[hr]at h ⊢
 simp only at h
 subst h
 obtain⟨a1,a2,a3,a4⟩:=c5t hb h8 hr
 exact⟨rfl,a1,a2,by rw[A4];simp only;omega,by rw[A4];exact a4⟩
theorem c4q(h:s.1≤bs.length):(B1 bs f s).2.1≤bs.length:=by
 unfold B1
 split
 ·exact h
 split
 ·exact h
 ·split
  ·simp only;omega
  ·exact h
theorem a5a(h:a7C f):f.size≤8:=by
 obtain⟨_,h|h|h⟩:=h<;>omega
theorem a7a{n:Int}(h:a7C f)(hm:f.may n=true):I64 n:=by
 have hm:=of_decide_eq_true hm
 obtain⟨h1,⟨h7,hlo,hhi⟩|⟨h7,hlo,hhi⟩|⟨h8,hlo,hhi⟩⟩:=h
 ·have hle:(2:Int)^(8*f.size)≤2^56:=by
   have:2^(8*f.size)≤2^56:=Nat.pow_le_pow_right (by decide) (by omega)
   exact_mod_cast this
  exact⟨by omega,by omega⟩
 ·have hle:(2:Int)^(8*f.size - 1)≤2^56:=by
   have:2^(8*f.size - 1)≤2^56:=Nat.pow_le_pow_right (by decide) (by omega)
   exact_mod_cast this
  exact⟨by omega,by omega⟩
 ·exact⟨by omega,by omega⟩
theorem b3D(hb:∀b∈bs,W3 b){x:In}:∀ {l:List Fld},(∀f∈l,a7C f)→l.length≤2→s.1≤bs.length→(J7 bs l s).2.2.2=0→(x.a=(J7 bs l s).1)→(2≤l.length→x.b=(J7 bs l s).2.1)→
  b3H x 0 l=true∧Seg bs s.1 (b1u x 0 l)∧(J7 bs l s).2.2.1=s.1+(b1u x 0 l).length∧I64 x.a∧(2≤l.length→I64 x.b)∧(l.length<2→(J7 bs l s).2.1=0)∧(l.length<1→x.a=0)
 | [],_,_,hs,h,ha,_=>by
  have ha:x.a=0:=ha
  exact⟨rfl,Seg.nil hs,rfl,by rw[ha];exact⟨by decide,by decide⟩,fun h=>by simp at h,fun _=>rfl,fun _=>ha⟩
 | [f],hg,_,hs,h,ha,_=>by
  have hf:=hg f (by simp)
  obtain⟨h0,h1,h2,h3⟩:=a7Y hb (a5a hf) (show(B1 bs f s).2.2=0 from h)
  have ha:x.a=(B1 bs f s).1:=ha
  have hn:x.num 0=(B1 bs f s).1:=ha
  refine⟨by simp[b3H,hn,h1],by simpa [b1u,hn]using h3, ?_,by rw[ha];exact a7a hf h1,fun h=>by simp at h,fun _=>rfl,fun h=>by simp at h⟩
  simp only[b1u,hn,List.append_nil,A4]
  exact h2
 | [f,g],hg,_,hs,h,ha,hbb=>by
  have hf:=hg f (by simp)
  have hg:=hg g (by simp)
  have hb2:x.b=(B1 bs g (B1 bs f s).2).1:=hbb (by simp)
  obtain⟨k0,k1,k2,k3⟩:=a7Y hb (a5a hg) (show(B1 bs g (B1 bs f s).2).2.2=0 from h)
  obtain⟨h0,h1,h2,h3⟩:=a7Y hb (a5a hf) k0
  have ha:x.a=(B1 bs f s).1:=ha
  have hn:x.num 0=(B1 bs f s).1:=ha
  have hn1:x.num 1=(B1 bs g (B1 bs f s).2).1:=hb2
  refine⟨by simp[b3H,hn,hn1,h1,k1], ?_, ?_,by rw[ha];exact a7a hf h1,fun _=>by rw[hb2];exact a7a hg k1,fun h=>by simp at h,fun h=>by simp at h⟩
  ·simp only[b1u,hn,hn1,List.append_nil]
   refine h3.append ?_
   rw[A4, ←h2];exact k3
  ·simp only[b1u,hn,hn1,List.append_nil,List.length_append,A4]
   show(B1 bs g (B1 bs f s).2).2.1=_
   omega
 |_::_::_::_,_,h,_,_,_,_=>by simp at h
theorem b8x(hb:∀b∈bs,W3 b){w:Int}:∀(n:Nat) (s:Nat×Int) (acc:List (Int×Int)),s.1≤bs.length→(G5 bs w n s acc).2.2=0→
  ∃new,(G5 bs w n s acc).1=acc++new∧new.length=n∧new.all (b9a w)=true∧Seg bs s.1 (a7B new)∧(G5 bs w n s acc).2.1=s.1+(a7B new).length∧(∀y∈new,I64 y.1∧I64 y.2)
 |0,s,acc,hs,h=>⟨[],by simp[G5],rfl,rfl,Seg.nil hs,rfl,fun y hy=>by cases hy⟩
 |n+1,s,acc,hs,h=>by
  have h0:=a5d h
  have eE:G5 bs w (n+1) s acc=G5 bs w n (B1 bs F4 (B1 bs (vF w) s).2).2 (acc++[((B1 bs (vF w) s).1,(B1 bs F4 (B1 bs (vF w) s).2).1)]):=by rw[G5,if_neg (by simp[h0])]
  rw[eE]at h ⊢
  obtain⟨k0,k1,k2,k3⟩:=a7Y hb (by decide) (a5d h:(B1 bs F4 (B1 bs (vF w) s).2).2.2=0)
  obtain⟨h0,h1,h2,h3⟩:=a7Y hb (by show 8≤8;omega) k0
  have hle:(B1 bs F4 (B1 bs (vF w) s).2).2.1≤bs.length:=by
   have:=k3.1
   rw[A4]at this
   omega
  obtain⟨new,e1,e2,e3,e4,e5,e6⟩:=b8x hb n _ _ hle h
  have sz1:(vF w).size=8:=rfl
  have sz2:F4.size=4:=rfl
  refine⟨((B1 bs (vF w) s).1,(B1 bs F4 (B1 bs (vF w) s).2).1)::new,by rw[e1];simp,by simp[e2], ?_, ?_, ?_, ?_⟩
  ·rw[List.all_cons,c4A,h1,k1,e3];rfl
  ·have:a7B (((B1 bs (vF w) s).1,(B1 bs F4 (B1 bs (vF w) s).2).1)::new)=(a3C (B1 bs (vF w) s).1 8++a3C (B1 bs F4 (B1 bs (vF w) s).2).1 4)++a7B new:=by simp[a7B,c5U]
   rw[this]
   refine(Seg.append h3 ?_).append ?_
   ·rw[A4, ←h2];exact k3
   ·rw[List.length_append,A4,A4]
    rw[sz1]at h2
    rw[sz2]at k2
    have:s.1+(8+4)=(B1 bs F4 (B1 bs (vF w) s).2).2.1:=by omega
    rw[sz1,this];exact e4
  ·rw[e5,a5f,a5f,List.length_cons]
   omega
  ·intro y hy
   rcases List.mem_cons.1 hy with rfl|hy
   ·exact⟨a7a (c4v w) h1,a7a b4d k1⟩
   ·exact e6 y hy
theorem c5K(hb:∀b∈bs,W3 b)(hp:p<bs.length){op a b:Int}{arms:List (Int×Int)}{next:Nat}(h:b5g bs p=((op,a,b,arms),(next,0))){x:In}(hx:x.dat=(op,a,b,arms)):
  x.Ok∧isS x=true∧Seg bs p (b3y x)∧next=p+(b3y x).length:=by
 have hlay:lay (bs.getD p 0)≠none:=by
  intro e
  unfold b5g at h
  rw[if_pos e]at h
  have:=congrArg (fun d=>d.2.2) h
  simp at this
 have hX:b1n bs p=((op,a,b,arms),(next,0)):=by
  unfold b5g at h
  rw[if_neg hlay]at h
  by_cases h0:(b1n bs p).2.2=0
  ·rw[if_neg (by simp[h0])]at h;exact h
  ·rw[if_pos h0]at h
   have:=congrArg (fun d=>d.2.2) h
   exact(h0 this).elim
 obtain⟨l,hl⟩:=Option.ne_none_iff_exists'.1 hlay
 obtain⟨hx1,hx2,hx3,hx4⟩:x.op=op∧x.a=a∧x.b=b∧x.arms=arms:=by
  have e:=hx
  unfold In.dat at e
  simp only[Prod.mk.injEq]at e
  exact e
 have hgood:=b5Y (bs.getD p 0)
 have hlen:=b3t (op:=bs.getD p 0)
 rw[hl]at hgood hlen
 simp only[Option.getD_some]at hgood hlen
 have hby:W3 (bs.getD p 0):=by
  rw[List.getD_eq_getElem?_getD,List.getElem?_eq_getElem hp]
  exact hb _ (List.getElem_mem _)
 have hseg0:Seg bs p [bs.getD p 0]:=by
  refine⟨by simp;omega, ?_⟩
  rw[List.getD_eq_getElem?_getD,List.getElem?_eq_getElem hp]
  show(bs.drop p).take 1=[bs[p]]
  rw[List.drop_eq_getElem_cons hp]
  rfl
 unfold b1n at hX
 rw[hl,Option.getD_some]at hX
 by_cases h49:bs.getD p 0=49
 ·rw[if_pos h49]at hX
  have hl1:l=[a8s]:=c5l hl h49
  subst hl1
  unfold a4j at hX
  obtain⟨r,hr⟩:∃r,r=J7 bs [a8s] (p+1,0):=⟨_,rfl⟩
  rw[←hr]at hX
  simp only[Prod.mk.injEq]at hX
  obtain⟨⟨q1,q2,q3,q4⟩,q5⟩:=hX
  have t0:=congrArg Prod.snd q5
  simp only at t0
  obtain⟨u0,u1,u2,u3⟩:=a7Y hb (by decide) t0
  have v0:=a5d u0
  obtain⟨w0,w1,w2,w3⟩:=a7Y hb (by decide) v0
  have hop:x.op=49:=by rw[hx1, ←q1]
  have ha:x.a=r.1:=by rw[hx2, ←q2]
  obtain⟨y1,y2,y3,y4,y5,y6,y7⟩:=b3D (x:=x) (s:=(p+1,0)) hb hgood hlen (by simp only;omega) (by rw[←hr];exact w0) (by rw[←hr];exact ha) (fun h=>by simp at h)
  rw[←hr]at y3
  have hle1:r.2.2.1≤bs.length:=by rw[y3];exact y2.1
  have hle2:(B1 bs fIx r.2.2).2.1≤bs.length:=c4q hle1
  obtain⟨new,e1,e2,e3,e4,e5,e6⟩:=b8x hb _ _ _ hle2 u0
  rw[List.nil_append]at e1
  have harms:x.arms=new:=by rw[hx4, ←q4,e1]
  have hb2:=hx3.trans q3.symm
  have hcnt:=of_decide_eq_true w1
  have hcnt0:0≤(B1 bs fIx r.2.2).1∧(B1 bs fIx r.2.2).1≤65535:=hcnt
  have hn:((new.length:Nat):Int)=(B1 bs fIx r.2.2).1:=by rw[e2];omega
  have hlv:=of_decide_eq_true u1
  have hS:isS x=true:=by
   unfold isS
   rw[hop,if_pos rfl,show lay 49=some [a8s]from rfl,Option.getD_some,y1,harms,ha,e3,hb2]
   simp only[Option.isSome_some,Bool.true_and,Bool.and_true,Bool.and_eq_true,decide_eq_true_eq]
   exact⟨by omega,hlv⟩
  have hE:b3y x=[49]++b1u x 0 [a8s]++(a3C (B1 bs fIx r.2.2).1 2++a7B new++a3C x.b 4):=by
   unfold b3y
   rw[hop,if_pos rfl,show lay 49=some [a8s]from rfl,Option.getD_some,harms,hn]
   simp
  have hsg:Seg bs p (b3y x):=by
   rw[hE]
   rw[h49]at hseg0
   refine(hseg0.append y2).append (Seg.append (Seg.append ?_ ?_) ?_)
   ·have:p+([49]++b1u x 0 [a8s]).length=r.2.2.1:=by rw[y3,List.length_append];simp;omega
    rw[this];exact w3
   ·have:p+([49]++b1u x 0 [a8s]).length+(a3C (B1 bs fIx r.2.2).1 2).length=(B1 bs fIx r.2.2).2.1:=by
     rw[w2,y3,List.length_append,A4];show _=_+2;simp;omega
    rw[this];exact e4
   ·have:p+([49]++b1u x 0 [a8s]).length+(a3C (B1 bs fIx r.2.2).1 2++a7B new).length=(G5 bs (IntKind.u8.wrap r.1) (B1 bs fIx r.2.2).1.toNat (B1 bs fIx r.2.2).2 []).2.1:=by
     rw[e5,w2,y3,List.length_append,List.length_append,A4];show _=_+2+_;simp;omega
    rw[this,hb2];exact u3
  refine⟨⟨by rw[hop];decide,y4,by rw[hb2];exact a7a b4d u1,by rw[harms];exact e6,by rw[harms];omega⟩,hS,hsg, ?_⟩
  have t1:=congrArg Prod.fst q5
  simp only at t1
  rw[←t1,u2,e5,w2,y3,hE]
  simp only[List.length_append,A4,List.length_cons,List.length_nil]
  show _+2+_+4=_
  omega
 ·rw[if_neg h49]at hX
  simp only[Prod.mk.injEq]at hX
  obtain⟨⟨q1,q2,q3,q4⟩,q5⟩:=hX
  have t0:=congrArg Prod.snd q5
  simp only at t0
  have hop:x.op=bs.getD p 0:=by rw[hx1, ←q1]
  obtain⟨y1,y2,y3,y4,y5,y6,y7⟩:=b3D (x:=x) (s:=(p+1,0)) hb hgood hlen (by simp only;omega) t0 (by rw[hx2, ←q2]) (fun _=>by rw[hx3, ←q3])
  have harms:x.arms=[]:=by rw[hx4, ←q4]
  have hbz:l.length<2→x.b=0:=fun h=>by rw[hx3, ←q3];exact y6 h
  have hop49:x.op≠49:=by rw[hop];exact h49
  have hlx:lay x.op=some l:=by rw[hop];exact hl
  have hS:isS x=true:=by
   unfold isS
   rw[if_neg hop49,hlx,Option.getD_some,y1,harms]
   simp only[Option.isSome_some,Bool.true_and,List.length_nil,decide_true,Bool.and_eq_true,Bool.or_eq_true,decide_eq_true_eq]
   refine⟨?_, ?_⟩
   ·by_cases h2:2≤l.length
    ·exact .inl h2
    ·exact .inr (hbz (by omega))
   ·by_cases h2:1≤l.length
    ·exact .inl h2
    ·exact .inr (y7 (by omega))
  have hE:b3y x=[bs.getD p 0]++b1u x 0 l:=by
   unfold b3y
   rw[if_neg hop49,hlx,Option.getD_some,hop]
   simp
  refine⟨⟨by rw[hop];exact hby,y4, ?_,(by rw[harms];intro y hy;cases hy),by rw[harms];decide⟩,hS,by rw[hE];exact hseg0.append y2, ?_⟩
  ·by_cases h2:2≤l.length
   ·exact y5 h2
   ·rw[hbz (by omega)];exact⟨by decide,by decide⟩
  ·have t1:=congrArg Prod.fst q5
   simp only at t1
   rw[←t1,y3,hE]
   simp
   omega
end
theorem c1c{bs:List Int}(hb:∀b∈bs,W3 b){n:Int}(h:(A7 bs n).2.2=0){x:In}(hx:x.dat=(A7 bs n).1):
  0≤n∧n.toNat<bs.length∧x.Ok∧isS x=true∧Seg bs n.toNat (b3y x)∧(A7 bs n).2.1=n.toNat+(b3y x).length:=by
 by_cases hn:n<0∨n≥bs.length
 ·unfold A7 at h
  rw[if_pos hn]at h
  simp at h
 ·have hd:A7 bs n=b5g bs n.toNat:=by unfold A7;rw[if_neg hn]
  rw[hd]at h hx ⊢
  obtain⟨d,next,e,hde⟩:∃d next e,b5g bs n.toNat=(d,(next,e)):=⟨_,_,_,rfl⟩
  obtain⟨op,a,b,arms⟩:=d
  rw[hde]at h hx ⊢
  simp only at h hx ⊢
  subst h
  obtain⟨a1,a2,a3,a4⟩:=c5K hb (by omega) hde hx
  exact⟨by omega,by omega,a1,a2,a3,a4⟩
def a5u(bs:List Int):Nat→Nat→Except Int (List (Dat×Nat))
 |0,_=> .ok []
 |n+1,p=>if bs.length≤p then .ok []else if(A7 bs p).2.2=0 then(match a5u bs n (A7 bs p).2.1 with| .ok l=> .ok (((A7 bs p).1,p)::l)| .error e=> .error e) else .error (A7 bs p).2.2
def c2s(done:List (Dat×Nat)):Except Int (List (Dat×Nat))→Except Int (List (Dat×Nat))
 | .ok l=> .ok (done++l)
 | .error e=> .error e
end Go.Op
end
section
namespace Go.Am
mutual
def frz(k:Nat)(o:u7):D→D
 | .ptr j i=>if j=k then(match o.rows with
  | [cs]=> .elt cs i
  |_=> .any) else .ptr j i
 | .rel j r i sz=>if j=k then(match o.rows[r]? with
  |some row=>if o.sz=sz then .elt row i else .any
  |none=> .any) else .rel j r i sz
 | .raw j i len cap ex sz=>if j=k then(if o.sz=sz∧i+len≤o.rows.length∧len≤cap then .lst ((o.rows.drop i).take len) sz else .any) else .raw j i len cap ex sz
 | .fn f a b=> .fn f (V1 k o a) (V1 k o b)
 | .ifc t v=> .ifc t (frz k o v)
 | .agg cs=> .agg (V1 k o cs)
 | .tup ds=> .tup (V1 k o ds)
 |d=>d
def V1(k:Nat)(o:u7):List D→List D
 | []=>[]
 |d::ds=>frz k o d::V1 k o ds
end
section
variable{P:Program}{E:d6}{w0:i5}{R:Fz}{S:b4}{H:AHeap}
def c0j(o:u7):Prop:=o.sz<E9∨∃cs,o.rows=[cs]
mutual
theorem b6V(hC:o9 E R S H){k:Nat}{o:u7}(hk:S k=some o){R':Fz}(hle:R.le R')(hR:c0j o→R' k=some o.acs):∀ {d:D} {v:AV},Rp E R d v→Rp E R' (frz k o d) v
 | .any,v,_=>by simp only[frz,Rp]
 | .bool b,v,h=>by simp only[frz,Rp]at*;exact h
 | .int j n,v,h=>by simp only[frz,Rp]at*;exact h
 | .str s,v,h=>by simp only[frz,Rp]at*;exact h
 | .nilPtr,v,h=>by simp only[frz,Rp]at*;exact h
 | .nilSlc,v,h=>by simp only[frz,Rp]at*;exact h
 | .nilMap,v,h=>by simp only[frz,Rp]at*;exact h
 | .nilFn,v,h=>by simp only[frz,Rp]at*;exact h
 | .nilIfc,v,h=>by simp only[frz,Rp]at*;exact h
 | .mp j,v,h=>by simp only[frz,Rp]at*;exact h
 | .tip j rows sz,v,h=>by
  have:=Rp.le hle _ _ h
  simp only[frz];exact this
 | .elt row i,v,h=>by
  have:=Rp.le hle _ _ h
  simp only[frz];exact this
 | .lst rows sz,v,h=>by
  have:=Rp.le hle _ _ h
  simp only[frz];exact this
 | .ext rows more sz,v,h=>by
  have:=Rp.le hle _ _ h
  simp only[frz];exact this
 | .ptr j i,v,h=>by
  simp only[frz]
  split
  ·rename_i e
   subst e
   split
   ·rename_i cs hcs
    have hc:c0j o:= .inr ⟨_,hcs⟩
    obtain⟨h1,⟨pre,h2⟩,h3,h4,h5⟩:=hC.cells hk hc
    simp only[Rp]at h ⊢
    subst h
    rw[hcs,List.flatten_singleton]at h5
    have e:o.acs.take cs.length=o.acs:=List.take_of_length_le (by rw[h5.length];exact Nat.le_refl _)
    refine⟨.new j,0,o.acs,by rw[Nat.zero_add], ?_, ?_, ?_⟩
    ·exact hR hc
    ·rw[List.drop_zero,e];exact p5.le hle _ _ h5
    ·rw[List.drop_zero,e];exact h3
   ·exact a6x
  ·simp only[Rp]at*;exact h
 | .rel j r i sz,v,h=>by
  simp only[frz]
  split
  ·rename_i e
   subst e
   split
   ·rename_i row hrow
    split
    ·rename_i hsz
     simp only[Rp]at h ⊢
     obtain⟨hzm,rfl⟩:=h
     have hc:c0j o:= .inl (by rw[hsz];exact hzm)
     obtain⟨h1,⟨pre,h2⟩,h3,h4,h5⟩:=hC.cells hk hc
     have hl:row.length=sz:=by rw[h4 row (List.mem_of_getElem? hrow),hsz]
     refine⟨.new j,r*sz,o.acs,rfl, ?_, ?_,E5 (O6 h3 _) _⟩
     ·exact hR hc
     ·have:=(h5.drop (r*sz)).take row.length
      rw[←hsz]at this hl ⊢
      rw[hl,a5M h4 hrow]at this
      rw[hl]
      exact p5.le hle _ _ this
    ·exact a6x
   ·exact a6x
  ·simp only[Rp]at*;exact h
 | .raw j i len cap ex sz,v,h=>by
  simp only[frz]
  split
  ·rename_i e
   subst e
   split
   ·rename_i hc
    have hzm:sz<E9:=by simp only[Rp]at h;exact h.1
    have hce:c0j o:= .inl (by rw[hc.1];exact hzm)
    refine Rp.le (R:=fun i=>if i=j then some o.acs else R i) (fun i cs e=> ?_) _ _ (a6U hC hk h hc.1 hc.2.1 hc.2.2)
    replace e:(if i=j then some o.acs else R i)=some cs:=e
    split at e
    ·rename_i hi;rw[hi, ←e];exact hR hce
    ·exact hle _ _ e
   ·exact a6x
  ·simp only[Rp]at*;exact h
 | .fn f a b,v,h=>by
  simp only[frz,Rp]at*
  obtain⟨a',b',e1,e2,e3⟩:=h
  exact⟨a',b',e1,a6S hC hk hle hR e2,a6S hC hk hle hR e3⟩
 | .ifc t d,v,h=>by
  simp only[frz,Rp]at*
  obtain⟨v',e1,e2⟩:=h
  exact⟨v',e1,b6V hC hk hle hR e2⟩
 | .agg cs,v,h=>by
  simp only[frz,Rp]at*
  obtain⟨vs,e1,e2,e3⟩:=h
  exact⟨vs,e1,a6S hC hk hle hR e2,e3⟩
 | .tup ds,v,h=>by
  simp only[frz,Rp]at*
  obtain⟨vs,e1,e2⟩:=h
  exact⟨vs,e1,a6S hC hk hle hR e2⟩
theorem a6S(hC:o9 E R S H){k:Nat}{o:u7}(hk:S k=some o){R':Fz}(hle:R.le R')(hR:c0j o→R' k=some o.acs):∀ {ds:List D} {vs:List AV},p5 E R ds vs→p5 E R' (V1 k o ds) vs
 | [],vs,h=>by simp only[V1,p5]at*;exact h
 |d::ds,vs,h=>by
  simp only[V1,p5]at*
  obtain⟨v,ws,e1,e2,e3⟩:=h
  exact⟨v,ws,e1,b6V hC hk hle hR e2,a6S hC hk hle hR e3⟩
end
theorem b9.frz{Q:D→b4→Prop}{d:D}{k:Nat}{o:u7}(hk:S k=Option.none)(h:b9 E Q (Am.frz k o d) S):b9 E Q d (S.set k o):=fun R H v hC hd=>by
 by_cases hc:c0j o
 ·obtain⟨h1,h2⟩:=hC.freeze (b4.set_same S k o) hc
  rw[b4.erase_set _ _ _ hk]at h1
  obtain⟨R',S',d',a,b,c,e⟩:=h _ H v h1 (b6V hC (b4.set_same S k o) h2 (fun _=>if_pos rfl) hd)
  exact⟨R',S',d',Fz.le_trans h2 a,b,c,e⟩
 ·have h1:=hC.less (S':=S) fun j x e=>by
   rw[b4.set_ne]
   ·exact e
   ·rintro rfl;rw[hk]at e;cases e
  exact h R H v h1 (b6V hC (b4.set_same S k o) (Fz.le_refl R) (fun h=>absurd h hc) hd)
def Wk(d d':D):Prop:=∀(E:d6) (R:Fz) (v:AV),Rp E R d v→Rp E R d' v
def WkL:List D→List D→Prop
 | [],[]=>True
 |d::ds,e::es=>Wk d e∧WkL ds es
 |_,_=>False
theorem Wk.refl(d:D):Wk d d:=fun _ _ _ h=>h
theorem Wk.any(d:D):Wk d .any:=fun _ _ _ _=>a6x
theorem Wk.nil(sz:Nat):Wk .nilSlc (.lst [] sz):=fun E R v h=>by simp only[Rp]at h ⊢;exact .inl ⟨by trivial,h⟩
theorem Wk.ext(rows more:List (List D))(sz:Nat):Wk (.ext rows more sz) (.lst rows sz):=fun E R v h=>by
 simp only[Rp]at h ⊢
 obtain⟨o,j,cap,ex,z,all,e1,e2,e3,e4,e5,e6,e7,e8,e9⟩:=h
 refine .inr ⟨o,j,cap,ex,z,e1,e2,by omega,e4, ?_⟩
 rcases e6 with e6|⟨e6,_⟩
 rotate_left
 ·exact .inl e6
 refine .inr ⟨all,e6,e7, ?_⟩
 have:=E5 e9 (rows.length*sz)
 rw[List.take_take,Nat.min_eq_left (Nat.mul_le_mul_right _ (by omega))]at this
 exact this
theorem DF.split{f:FuncId}{sz:Nat}{pre post:List D}{S:b4}{Q:D→b4→Prop}(h1:r8 P E w0 f (pre++ .nilSlc::post) S Q)(h2:r8 P E w0 f (pre++ .ext [] [] sz::post) S Q):r8 P E w0 f (pre++ .lst [] sz::post) S Q:=fun R H avs hF hC ha=>by
 obtain⟨v1,v2,rfl,g1,g2⟩:=a1W ha
 simp only[p5]at g2
 obtain⟨w,ws,rfl,g3,g4⟩:=g2
 simp only[Rp]at g3
 rcases g3 with ⟨_,rfl⟩|⟨o,j,cap,ex,z,rfl,f1,f2,_,_⟩
 ·exact h1 R H _ hF hC (g1.append (o4 (by simp only[Rp]) g4))
 ·refine h2 R H _ hF hC (g1.append (o4 ?_ g4))
  simp only[Rp]
  exact⟨o,j,cap,ex,z,[],rfl,f1,by simp,by simp,by simp,by simp,by simp[U7],by simp[U7],by simp⟩
theorem WkL.refl:∀ds:List D,WkL ds ds
 | []=>trivial
 |d::ds=>⟨Wk.refl d,WkL.refl ds⟩
theorem WkL.ok:∀ {ds es:List D},WkL ds es→∀ {E:d6} {R:Fz} {vs:List AV},p5 E R ds vs→p5 E R es vs
 | [],[],_,E,R,vs,h=>h
 |d::ds,e::es,w,E,R,vs,h=>by
  simp only[p5]at h ⊢
  obtain⟨v,ws,e1,e2,e3⟩:=h
  exact⟨v,ws,e1,w.1 _ _ _ e2,WkL.ok w.2 e3⟩
 | [],_::_,w,_,_,_,_=>w.elim
 |_::_,[],w,_,_,_,_=>w.elim
theorem Wk.agg{ds es:List D}(w:WkL ds es):Wk (.agg ds) (.agg es):=fun E R v h=>by
 simp only[Rp]at h ⊢
 obtain⟨vs,e1,e2,e3⟩:=h
 exact⟨vs,e1,w.ok e2,e3⟩
theorem Wk.tup{ds es:List D}(w:WkL ds es):Wk (.tup ds) (.tup es):=fun E R v h=>by
 simp only[Rp]at h ⊢
 obtain⟨vs,e1,e2⟩:=h
 exact⟨vs,e1,w.ok e2⟩
theorem b9.weak{Q:D→b4→Prop}{d d':D}(w:Wk d d')(h:b9 E Q d' S):b9 E Q d S:=fun R H v hC hd=>h R H v hC (w _ _ _ hd)
theorem DF.weak{f:FuncId}{ds es:List D}{Q:D→b4→Prop}(w:WkL ds es)(h:r8 P E w0 f es S Q):r8 P E w0 f ds S Q:=fun R H avs hF hC ha=>h R H avs hF hC (w.ok ha)
theorem b9.drop{Q:D→b4→Prop}{d:D}{k:Nat}{o:u7}(hk:S k=Option.none)(h:b9 E Q d S):b9 E Q d (S.set k o):=b9.less (b4.le_new hk) h
theorem b9.pure{d:D}:b9 E (fun d' S'=>d'=d∧S'=S) d S:=b9.here ⟨rfl,rfl⟩
theorem b7N{k i len cap sz:Nat}{ex:Bool}{rows:List (List D)}{acs:List AV}(h:i+len≤rows.length)(hc:len≤cap):Am.frz k ⟨sz,rows,acs⟩ (.raw k i len cap ex sz)= .lst ((rows.drop i).take len) sz:=by
 simp only[Am.frz,if_true];rw[if_pos ⟨by trivial,h,hc⟩]
end
end Go.Am
end
