/-
  BlocksCutsSaid: part Pas of its proof.
-/
import Derived.Test.YtdkidgkiplcggaaPar
set_option linter.unusedVariables false
set_option linter.unusedSimpArgs false
set_option maxRecDepth 100000
section
namespace Go.Am
section
variable{P:Program}{E:g8}{w0:j0}
@[simp] theorem oD{α:Type}(a:α)(Q:α→Prop):b4 (some a) Q=Q a:=(rfl)
@[simp] theorem cdT(a b:Prop):i5 (.bool true) a b=a:=(rfl)
@[simp] theorem cdF(a b:Prop):i5 (.bool false) a b=b:=(rfl)
theorem cdB(t:Bool)(a b:Prop):i5 (.bool t) a b↔(t=true→a)∧(t=false→b):=by cases t<;>simp
theorem V7(p:Prop)[Decidable p](a b:Prop):i5 (.bool (decide p)) a b↔(p→a)∧(¬p→b):=by
 by_cases h:p<;>simp[h]
@[simp] theorem gdT(s:(D→b5→Prop)→Prop)(S:b5)(Q:D→b5→Prop):a2B (some true) s S Q=s Q:=(rfl)
@[simp] theorem gdF(s:(D→b5→Prop)→Prop)(S:b5)(Q:D→b5→Prop):a2B (some false) s S Q=Q b6 S:=(rfl)
@[simp] theorem vdT(r:Option D):d6 (some true) r=r:=(rfl)
@[simp] theorem vdF(r:Option D):d6 (some false) r=some b6:=(rfl)
@[simp] theorem wdB(b w:Bool):b8 (.bool b) w=some (b==w):=(rfl)
@[simp] theorem wdU(w:Bool):b8 b6 w=some false:=(rfl)
@[simp] theorem pdB(t:Bool)(a b:D):y9 (.bool t) a b=some (if t then a else b):=(rfl)
@[simp] theorem exD(vs:List D)(i:Nat):o5 (.tup vs) i=vs[i]? :=(rfl)
@[simp] theorem ndP(k i:Nat):W6 (.ptr k i)=some (.ptr k i):=(rfl)
@[simp] theorem ndR(k r i sz:Nat):W6 (.rel k r i sz)=some (.rel k r i sz):=(rfl)
@[simp] theorem ndE(row:List D)(i:Nat):W6 (.elt row i)=some (.elt row i):=(rfl)
@[simp] theorem ndF(f:FuncId)(a b:List D):W6 (.fn (.func f) a b)=some (.fn (.func f) a b):=(rfl)
@[simp] theorem ndI(t:TypeId)(v:D):W6 (.ifc t v)=some (.ifc t v):=(rfl)
@[simp] theorem ofP(k i o:Nat):p9 o (.ptr k i)=some (.ptr k (i+o)):=(rfl)
@[simp] theorem ofR(k r i sz o:Nat):p9 o (.rel k r i sz)=some (.rel k r (i+o) sz):=(rfl)
@[simp] theorem ofE(row:List D)(i o:Nat):p9 o (.elt row i)=some (.elt row (i+o)):=(rfl)
@[simp] theorem paA(off n:Nat)(cs:List D):b9P off n (.agg cs)=some (.agg ((cs.drop off).take n)):=(rfl)
@[simp] theorem psA(off:Nat)(cs:List D):c0u off (.agg cs)=cs[off]? :=(rfl)
@[simp] theorem lnN:j9 .nilSlc=some (.int .i64 0):=(rfl)
@[simp] theorem lnL(rows:List (List D))(sz:Nat):j9 (.lst rows sz)=some (.int .i64 rows.length):=(rfl)
@[simp] theorem lnE(rows more:List (List D))(sz:Nat):j9 (.ext rows more sz)=some (.int .i64 rows.length):=(rfl)
@[simp] theorem lnR(k i len cap:Nat)(ex:Bool)(sz:Nat):j9 (.raw k i len cap ex sz)=some (.int .i64 len):=(rfl)
@[simp] theorem lnS(s:List UInt8):c3B (.str s)=some (.int .i64 s.length):=(rfl)
@[simp] theorem cvI(k k':IntKind)(n:Int):Q9 k (.int k' n)=some (.int k (k.wrap n)):=(rfl)
@[simp] theorem cvS(s:List UInt8):b9D (.str s)=some (.str s):=(rfl)
@[simp] theorem unN(b:Bool):unD .not (.bool b)=some (.bool !b):=(rfl)
@[simp] theorem unM(k:IntKind)(n:Int):unD .neg (.int k n)=some (.int k (k.wrap (0 - n))):=(rfl)
@[simp] theorem C4(k:IntKind)(a b:Int):d5 .add (.int k a) (.int k b)=some (.int k (k.wrap (a+b))):=by simp[d5,L6,W9]
@[simp] theorem a0M(k:IntKind)(a b:Int):d5 .sub (.int k a) (.int k b)=some (.int k (k.wrap (a - b))):=by simp[d5,L6,W9]
@[simp] theorem c4C(k:IntKind)(a b:Int):d5 .mul (.int k a) (.int k b)=some (.int k (k.wrap (a*b))):=by simp[d5,L6,W9]
@[simp] theorem a2Z(k:IntKind)(a b:Int):d5 .eql (.int k a) (.int k b)=some (.bool (a==b)):=by simp[d5,L6,W9]
@[simp] theorem a9c(k:IntKind)(a b:Int):d5 .neq (.int k a) (.int k b)=some (.bool (a != b)):=by simp[d5,L6,W9]
@[simp] theorem M7(k:IntKind)(a b:Int):d5 .lss (.int k a) (.int k b)=some (.bool (decide (a<b))):=by simp[d5,L6,W9]
@[simp] theorem d1W(k:IntKind)(a b:Int):d5 .leq (.int k a) (.int k b)=some (.bool (decide (a≤b))):=by simp[d5,L6,W9]
@[simp] theorem a8g(k:IntKind)(a b:Int):d5 .gtr (.int k a) (.int k b)=some (.bool (decide (a>b))):=by simp[d5,L6,W9]
@[simp] theorem c1u(k:IntKind)(a b:Int):d5 .geq (.int k a) (.int k b)=some (.bool (decide (a≥b))):=by simp[d5,L6,W9]
@[simp] theorem d1H(k:IntKind)(a b:Int):d5 .and (.int k a) (.int k b)=some (.int k (k.wrap (BitVec.ofInt k.bits a &&& BitVec.ofInt k.bits b).toNat)):=by simp[d5,L6,W9]
@[simp] theorem d1B(k:IntKind)(a b:Int):d5 .or (.int k a) (.int k b)=some (.int k (k.wrap (BitVec.ofInt k.bits a ||| BitVec.ofInt k.bits b).toNat)):=by simp[d5,L6,W9]
@[simp] theorem d1J(k:IntKind)(a b:Int):d5 .xor (.int k a) (.int k b)=some (.int k (k.wrap (BitVec.ofInt k.bits a ^^^ BitVec.ofInt k.bits b).toNat)):=by simp[d5,L6,W9]
theorem c4Q(k k':IntKind)(a:Int)(b:Int)(h:0≤b):d5 .shl (.int k a) (.int k' b)=some (.int k (k.wrap (a*2^(min b.toNat k.bits)))):=by simp only[d5];rw[if_neg (by omega)]
theorem d0q(k k':IntKind)(a:Int)(b:Int)(h:0≤b):d5 .shr (.int k a) (.int k' b)=some (.int k (a.fdiv (2^(min b.toNat k.bits)))):=by simp only[d5];rw[if_neg (by omega)]
@[simp] theorem d1F(a b:List UInt8):c3n .add (.str a) (.str b)=if((a.length+b.length:Nat):Int)≤IntKind.i64.max then some (.str (a++b)) else none:=by
 simp only[c3n,a4t];split<;>rfl
@[simp] theorem d0X(a b:List UInt8):c3n .eql (.str a) (.str b)=some (.bool (a==b)):=(rfl)
@[simp] theorem d1O(a b:List UInt8):c3n .neq (.str a) (.str b)=some (.bool !(a==b)):=(rfl)
@[simp] theorem eqE(b:Bool):b7O .eql (some b)=some (.bool b):=(rfl)
@[simp] theorem eqN(b:Bool):b7O .neq (some b)=some (.bool !b):=(rfl)
@[simp] theorem d1M(a b:Bool):c9z (.bool a) (.bool b)=some (a==b):=(rfl)
@[simp] theorem clB(b:Bool):s5 (.bool b)=some [.bool b]:=(rfl)
@[simp] theorem clI(k:IntKind)(n:Int):s5 (.int k n)=some [.int k n]:=(rfl)
@[simp] theorem clS(s:List UInt8):s5 (.str s)=some [.str s]:=(rfl)
@[simp] theorem clN:s5 .nilSlc=some [.nilSlc]:=(rfl)
@[simp] theorem clP:s5 .nilPtr=some [.nilPtr]:=(rfl)
@[simp] theorem clF:s5 .nilFn=some [.nilFn]:=(rfl)
@[simp] theorem clL(rows:List (List D))(sz:Nat):s5 (.lst rows sz)=some [.lst rows sz]:=(rfl)
@[simp] theorem clE(rows more:List (List D))(sz:Nat):s5 (.ext rows more sz)=some [.ext rows more sz]:=(rfl)
@[simp] theorem clR(k i len cap:Nat)(ex:Bool)(sz:Nat):s5 (.raw k i len cap ex sz)=some [.raw k i len cap ex sz]:=(rfl)
@[simp] theorem clA(cs:List D):s5 (.agg cs)=some cs:=(rfl)
@[simp] theorem d1Y(k i:Nat):s5 (.ptr k i)=some [.ptr k i]:=(rfl)
@[simp] theorem d1L(f:Fn)(a b:List D):s5 (.fn f a b)=some [.fn f a b]:=(rfl)
@[simp] theorem d1S(t:TypeId)(v:D):s5 (.ifc t v)=some [.ifc t v]:=(rfl)
@[simp] theorem agS(cs:List D):B3 (some cs)=some (.agg cs):=(rfl)
@[simp] theorem fiN(cs:List D):l8 cs []=some cs:=(rfl)
@[simp] theorem frN(sz:Nat)(rows:List (List D)):o7 sz rows []=some rows:=(rfl)
@[simp] theorem lsE(row:List D)(i:Nat)(S:b5):d9 S (.elt row i)=row[i]? :=(rfl)
@[simp] theorem laE(row:List D)(i n:Nat)(S:b5):l9 S n (.elt row i)=if 0<n∧i+n≤row.length then some (.agg ((row.drop i).take n)) else none:=(rfl)
@[simp] theorem mxD(k:IntKind)(a b:Int):b0W true [.int k a, .int k b]=some (.int k (if b>a then b else a)):=(rfl)
@[simp] theorem mnD(k:IntKind)(a b:Int):b0W false [.int k a, .int k b]=some (.int k (if b<a then b else a)):=(rfl)
theorem b9u{rows:List (List D)}{sz i:Nat}{row:List D}(h:rows[i]? =some row):j5 sz (.lst rows sz) (.int .i64 (i:Int))=some (.elt row 0):=by
 simp only[j5]
 rw[if_pos ⟨by trivial,by omega⟩,Int.toNat_natCast,h]
theorem d1n{rows more:List (List D)}{sz i:Nat}{row:List D}(h:rows[i]? =some row):j5 sz (.ext rows more sz) (.int .i64 (i:Int))=some (.elt row 0):=by
 simp only[j5]
 rw[if_pos ⟨by trivial,by omega⟩,Int.toNat_natCast,h]
theorem c1l{k i len cap sz j:Nat}{ex:Bool}(h:j<len):j5 sz (.raw k i len cap ex sz) (.int .i64 (j:Int))=some (.rel k (i+j) 0 sz):=by
 simp only[j5]
 rw[if_pos ⟨by trivial,by omega,by omega⟩,Int.toNat_natCast]
theorem b5.fresh{S:b5}{j k:Nat}{o:A2}(h:(S.set j o) k=Option.none):k≠j∧S k=Option.none:=by
 unfold b5.set at h
 split at h
 ·cases h
 ·rename_i e;exact⟨e,h⟩
theorem b8T{S:b5}{k i sz:Nat}{cs:List D}{acs:List AV}(h:S k=some ⟨sz,[cs],acs⟩):b3J S (.ptr k i)=some (cs,i):=by
 simp only[b3J,h]
theorem b8X{S:b5}{k r i sz:Nat}{rows:List (List D)}{row:List D}{acs:List AV}(h:S k=some ⟨sz,rows,acs⟩)(hr:rows[r]? =some row):b3J S (.rel k r i sz)=some (row,i):=by
 simp only[b3J,h,hr];rfl
theorem ldP{S:b5}{k i sz:Nat}{cs:List D}{acs:List AV}(h:S k=some ⟨sz,[cs],acs⟩):d9 S (.ptr k i)=cs[i]? :=by simp only[d9,b8T h]
theorem laP{S:b5}{k i n sz:Nat}{cs:List D}{acs:List AV}(h:S k=some ⟨sz,[cs],acs⟩)(hn:0<n∧i+n≤cs.length):l9 S n (.ptr k i)=some (.agg ((cs.drop i).take n)):=by
 simp only[l9,b8T h];rw[if_pos hn]
theorem ldR{S:b5}{k r i sz:Nat}{rows:List (List D)}{row:List D}{acs:List AV}(h:S k=some ⟨sz,rows,acs⟩)(hr:rows[r]? =some row):d9 S (.rel k r i sz)=row[i]? :=by simp only[d9,b8X h hr]
theorem laR{S:b5}{k r i n sz:Nat}{rows:List (List D)}{row:List D}{acs:List AV}(h:S k=some ⟨sz,rows,acs⟩)(hr:rows[r]? =some row)(hn:0<n∧i+n≤row.length):l9 S n (.rel k r i sz)=some (.agg ((row.drop i).take n)):=by
 simp only[l9,b8X h hr];rw[if_pos hn]
theorem stP{S:b5}{k i n sz:Nat}{cs ds:List D}{acs:List AV}{v:D}{K:D→b5→Prop}(h:S k=some ⟨sz,[cs],acs⟩)(hv:s5 v=some ds)(hn:ds.length=n∧0<n∧i+n≤cs.length)
  (hK:∀acs,K b6 (S.set k ⟨sz,[j4 cs i ds],acs⟩)):j1 S n (.ptr k i) v K:=by
 simp only[j1,hv,h]
 rw[if_pos ⟨hn.1,hn.2.1⟩,if_pos hn.2.2]
 exact hK
theorem stR{S:b5}{k r i n sz:Nat}{rows:List (List D)}{row ds:List D}{acs:List AV}{v:D}{K:D→b5→Prop}(h:S k=some ⟨sz,rows,acs⟩)(hr:rows[r]? =some row)(hv:s5 v=some ds)(hn:ds.length=n∧0<n∧i+n≤row.length)
  (hK:∀acs,K b6 (S.set k ⟨sz,rows.set r (j4 row i ds),acs⟩)):j1 S n (.rel k r i sz) v K:=by
 simp only[j1,hv,h,hr]
 rw[if_pos ⟨hn.1,hn.2.1⟩,if_pos (by trivial),if_pos hn.2.2]
 exact hK
theorem b5.set_in(S:b5){k l:Nat}(h:k≠l)(a b c:A2):((S.set k a).set l b).set k c=(S.set k c).set l b:=by
 rw[b5.set_comm S h,b5.set_set,b5.set_comm S h]
theorem b5.le_new{S:b5}{k:Nat}{o:A2}(h:S k=Option.none):S.le (S.set k o):=b5.le_set (b5.le_refl S) h
def J5(l:List D):List (List D):=l.map fun d=>[d]
@[simp] theorem c8M(l:List D):(J5 l).length=l.length:=List.length_map _
theorem c1Z{l:List D}{i:Nat}{d:D}(h:l[i]? =some d):(J5 l)[i]? =some [d]:=by simp only[J5,List.getElem?_map,h];rfl
def Grw(S0:b5)(t:D)(rows:List (List D))(sz:Nat)(S:b5):Prop:=
 (t= .nilSlc∧rows=[]∧S=S0)∨∃k acs,S0 k=Option.none∧t= .raw k 0 rows.length rows.length false sz∧S=S0.set k ⟨sz,rows,acs⟩
theorem Grw.nil(S:b5)(sz:Nat):Grw S .nilSlc [] sz S:= .inl ⟨rfl,rfl,rfl⟩
theorem Grw.le{S0 S:b5}{t:D}{rows:List (List D)}{sz:Nat}(h:Grw S0 t rows sz S):S0.le S:=by
 rcases h with ⟨_,_,rfl⟩|⟨k,acs,h,_,rfl⟩
 ·exact b5.le_refl _
 ·exact b5.le_new h
theorem Grw.len{S0 S:b5}{t:D}{rows:List (List D)}{sz:Nat}(h:Grw S0 t rows sz S):j9 t=some (.int .i64 rows.length):=by
 rcases h with ⟨rfl,rfl,rfl⟩|⟨k,acs,h,rfl,rfl⟩<;>rfl
theorem Grw.push{S0 S:b5}{t:D}{rows:List (List D)}{sz bytes:Nat}(h:Grw S0 t rows sz S){v:D}{news:List (List D)}(hv:rowsS S sz v=some news)(hb:0<bytes∧(2*(rows.length+news.length)+768)*bytes≤2^47){K:D→b5→Prop}
  (hK:∀t' S',Grw S0 t' (rows++news) sz S'→K t' S'):u4 S sz bytes t v K:=by
 simp only[u4,hv]
 rcases h with ⟨rfl,rfl,rfl⟩|⟨k,acs,h,rfl,rfl⟩
 ·simp only[a0h]
  by_cases hn:news=[]
  ·rw[if_pos hn]
   exact hK _ _ (.inl ⟨rfl,by rw[hn];rfl,rfl⟩)
  ·rw[if_neg hn]
   refine⟨⟨hb.1,by simpa using hb.2⟩, .inr fun k acs hk=>hK _ _ (.inr ⟨k,acs,hk, ?_, ?_⟩)⟩<;>simp
 ·simp only[a0h]
  by_cases hn:news=[]
  ·rw[if_pos hn]
   refine hK _ _ (.inr ⟨k,acs,h, ?_, ?_⟩)<;>simp[hn]
  ·rw[if_neg hn,b5.set_same]
   simp only
   rw[if_pos ⟨by trivial,by trivial,by omega⟩]
   refine⟨hb, .inr fun k' acs' hk'=> ?_⟩
   rw[b5.erase_set _ _ _ h]at hk' ⊢
   refine hK _ _ (.inr ⟨k',acs',hk', ?_, ?_⟩)<;>simp
theorem Grw.swap{S0 S1 S:b5}{t u:D}{r q:List (List D)}{s z:Nat}(h:Grw S0 t r s S1)(h':Grw S1 u q z S):∃S2,Grw S0 u q z S2∧Grw S2 t r s S:=by
 rcases h with ⟨rfl,rfl,rfl⟩|⟨k,acs,hk,rfl,rfl⟩
 ·exact⟨S,h', .inl ⟨rfl,rfl,rfl⟩⟩
 ·rcases h' with ⟨rfl,rfl,rfl⟩|⟨l,bcs,hl,rfl,rfl⟩
  ·exact⟨S0, .inl ⟨rfl,rfl,rfl⟩, .inr ⟨k,acs,hk,rfl,rfl⟩⟩
  ·obtain⟨hne,hl0⟩:=b5.fresh hl
   refine⟨S0.set l ⟨z,q,bcs⟩, .inr ⟨l,bcs,hl0,rfl,rfl⟩, .inr ⟨k,acs, ?_,rfl, ?_⟩⟩
   ·rw[b5.set_ne _ _ _ (Ne.symm hne)];exact hk
   ·exact b5.set_comm _ (Ne.symm hne) _ _
theorem Grw.fin{S0 S:b5}{t:D}{rows:List (List D)}{sz:Nat}(h:Grw S0 t rows sz S){Q:D→b5→Prop}(hq:b9 E Q (.lst rows sz) S0):b9 E Q t S:=by
 rcases h with ⟨rfl,rfl,rfl⟩|⟨k,acs,h,rfl,rfl⟩
 ·exact b9.nil hq
 ·refine b9.freeze (b5.set_same _ _ _) rfl (by simp) (Nat.le_refl _) ?_
  rw[b5.erase_set _ _ _ h]
  simpa using hq
theorem Grw.under{S0 S:b5}{t:D}{rows:List (List D)}{sz:Nat}(h:Grw S0 t rows sz S){k:Nat}{o:A2}(hk:S k=Option.none):Grw (S0.set k o) t rows sz (S.set k o):=by
 rcases h with ⟨rfl,rfl,rfl⟩|⟨l,acs,h,rfl,rfl⟩
 ·exact .inl ⟨rfl,rfl,rfl⟩
 ·obtain⟨hne,hk0⟩:=b5.fresh hk
  refine .inr ⟨l,acs, ?_,rfl,b5.set_comm _ (Ne.symm hne) _ _⟩
  rw[b5.set_ne _ _ _ (Ne.symm hne)];exact h
theorem Grw.drop{S0 S:b5}{t:D}{rows:List (List D)}{sz k:Nat}{o:A2}(h:Grw (S0.set k o) t rows sz S)(hk:S0 k=Option.none):∃S',S'.le S∧Grw S0 t rows sz S':=by
 rcases h with ⟨rfl,rfl,rfl⟩|⟨l,acs,h,rfl,rfl⟩
 ·exact⟨S0,b5.le_new hk, .inl ⟨rfl,rfl,rfl⟩⟩
 ·obtain⟨hne,hl0⟩:=b5.fresh h
  refine⟨S0.set l ⟨sz,rows,acs⟩, ?_, .inr ⟨l,acs,hl0,rfl,rfl⟩⟩
  rw[b5.set_comm _ (Ne.symm hne)]
  refine b5.le_new ?_
  rw[b5.set_ne _ _ _ (Ne.symm hne)];exact hk
theorem Grw.base{S0 S1 S:b5}{t:D}{rows:List (List D)}{sz:Nat}(h:Grw S1 t rows sz S)(hle:S0.le S1):∃S',S'.le S∧Grw S0 t rows sz S':=by
 rcases h with ⟨rfl,rfl,rfl⟩|⟨l,acs,h,rfl,rfl⟩
 ·exact⟨S0,hle, .inl ⟨rfl,rfl,rfl⟩⟩
 ·have hl:S0 l=Option.none:=by
   cases e:S0 l with
   |none=>rfl
   |some o=>rw[hle _ _ e]at h;cases h
  refine⟨S0.set l ⟨sz,rows,acs⟩,fun j o e=> ?_, .inr ⟨l,acs,hl,rfl,rfl⟩⟩
  unfold b5.set at e ⊢
  split at e
  ·rename_i hj;rw[if_pos hj];exact e
  ·rename_i hj;rw[if_neg hj];exact hle _ _ e
theorem E8{S:b5}{sz:Nat}{rows:List (List D)}{len:Nat}{K:D→b5→Prop}(hl:rows.length=len)(h:K (.lst rows sz) S):C7 S sz (some rows) len K:=by
 simp only[C7,oD]
 refine .inl ?_
 rw[List.take_of_length_le (by omega)]
 exact h
theorem c8c{S:b5}{sz:Nat}{rows:List (List D)}{len:Nat}{K:D→b5→Prop}(h:∀k acs,S k=Option.none→K (.raw k 0 len len true sz) (S.set k ⟨sz,rows,acs⟩)):C7 S sz (some rows) len K:=by
 simp only[C7,oD]
 exact .inr h
theorem fwP(k i:Nat)(S S':b5):C9 (.ptr k i) S S'=(S' k=S k):=(rfl)
theorem fwR(x:D)(S:b5):C9 x S S:=by
 unfold C9
 split<;>trivial
end
end Go.Am
end
section
namespace Go.Op
open Go.Am
def a0Y(w:Int):Int:=if w=1 then -128 else if w=2 then -2147483648 else if w=3 then -9223372036854775808 else 1
def a1a(w:Int):Int:=if w=1 then 127 else if w=2 then 2147483647 else if w=3 then 9223372036854775807 else 0
def I64(n:Int):Prop:= -9223372036854775808≤n∧n≤9223372036854775807
def R3(w:Int):Int:=if w=1 then 8 else if w=2 then 32 else if w=3 then 64 else 0
def b9b(w n:Int):Int:=if w=1 then IntKind.i64.wrap (IntKind.i8.wrap n) else if w=2 then IntKind.i64.wrap (IntKind.i32.wrap n) else if w=3 then n else 0
theorem c7P(n:Int):IntKind.u8.wrap n=n % 256:=by
 simp only[IntKind.wrap,IntKind.bits,IntKind.signed];simp
theorem c1v(n:Int):IntKind.u64.wrap n=n % 18446744073709551616:=by
 simp only[IntKind.wrap,IntKind.bits,IntKind.signed];simp
def b0p(n:Int)(i:Nat):Int:=(n / 2^(8*i)) % 256
def a5d(n:Int)(size:Nat):List Int:=(List.range size).map (b0p n)
theorem C0(n:Int)(s:Nat):(a5d n s).length=s:=by simp[a5d]
structure Fld where
 size:Nat
 lo:Int
 hi:Int
 deriving DecidableEq
def fIx:Fld:=⟨2,0,65535⟩
def E1:Fld:=⟨4,0,4294967295⟩
def a4a:Fld:=⟨1,1,3⟩
def c3G(b:Bool)(op:Int):Option (List Fld):=
 if b then some [E1]else if op=52 then some [⟨1,0,255⟩]else if op=49 then some [a4a]
 else if 11≤op∧op≤28 then some [a4a]else if 1≤op∧op≤52 then some []else none
def c3O(b:Bool)(op:Int):Option (List Fld):=
 if b then some [⟨1,1,5⟩]else if op=29 then some [a4a,a4a]else c3G (op==46||op==47||op==48) op
def c3t(b:Bool)(op:Int):Option (List Fld):=if b then some [fIx,fIx]else c3O (op==23||op==24) op
def c1w(b:Bool)(op:Int):Option (List Fld):=if b then some [fIx]else c3t (op==37||op==38) op
def lay(op:Int):Option (List Fld):=
 if op=1 then some [⟨1,a0Y 1,a1a 1⟩]else if op=2 then some [⟨4,a0Y 2,a1a 2⟩]else if op=3 then some [⟨8,a0Y 3,a1a 3⟩]
 else c1w (op==6||op==7||op==8||op==50||op==36||op==39||op==40||op==41||op==42||op==43||op==44||op==45) op
structure In where
 op:Int
 a:Int
 b:Int
 arms:List (Int×Int)
structure In.Ok (x:In):Prop where
 op:0≤x.op∧x.op≤255
 a:I64 x.a
 b:I64 x.b
 arms:∀y∈x.arms,I64 y.1∧I64 y.2
 short:x.arms.length<2^44
def Fld.may(f:Fld)(n:Int):Bool:=decide (f.lo≤n∧n≤f.hi)
def In.num(x:In)(i:Nat):Int:=if i=1 then x.b else x.a
def b3n(x:In):Nat→List Fld→List Int
 |_,[]=>[]
 |i,f::l=>a5d (x.num i) f.size++b3n x (i+1) l
def b6X(x:In):Nat→List Fld→Bool
 |_,[]=>true
 |i,f::l=>f.may (x.num i)&&b6X x (i+1) l
def c9L(y:Int×Int):List Int:=a5d y.1 8++a5d y.2 4
def c1g(w:Int)(y:Int×Int):Bool:=decide (a0Y w≤y.1∧y.1≤a1a w)&&decide (0≤y.2∧y.2≤4294967295)
def isS(x:In):Bool:=
 (lay x.op).isSome&&b6X x 0 ((lay x.op).getD [])&&
  if x.op=49 then decide (x.arms.length≤65535)&&x.arms.all (c1g (IntKind.u8.wrap x.a))&&decide (0≤x.b∧x.b≤4294967295)
  else decide (x.arms.length=0)&&(decide (2≤((lay x.op).getD []).length)||decide (x.b=0))&&(decide (1≤((lay x.op).getD []).length)||decide (x.a=0))
def a9u(arms:List (Int×Int)):List Int:=arms.flatMap c9L
def a6E(x:In):List Int:=x.op::b3n x 0 ((lay x.op).getD [])++if x.op=49 then a5d x.arms.length 2++a9u x.arms++a5d x.b 4 else[]
def b2h(l:Option (List Fld)):Bool:=(l.getD []).all (fun f=>decide (1≤f.size∧f.size≤8))&&decide ((l.getD []).length≤2)
theorem c7g{c:Prop}[Decidable c]{a b:Option (List Fld)}(ha:b2h a=true)(hb:b2h b=true):b2h (if c then a else b)=true:=by
 by_cases h:c
 ·rw[if_pos h];exact ha
 ·rw[if_neg h];exact hb
theorem c6p(op:Int):b2h (lay op)=true:=by
 unfold lay c1w c3t c3O c3G
 repeat' apply c7g
 all_goals rfl
theorem b0o{op:Int}:((lay op).getD []).length≤2:=by
 have h:=c6p op
 simp only[b2h,Bool.and_eq_true,List.all_eq_true,decide_eq_true_eq]at h
 exact h.2
theorem a5T:∀l:List (Int×Int),(a9u l).length=12*l.length
 | []=>rfl
 |y::l=>by
  have:=a5T l
  simp only[a9u,List.flatMap_cons,List.length_append,c9L,C0,List.length_cons]at this ⊢
  omega
def leN:List Int→Nat
 | []=>0
 |b::l=>b.toNat+256*leN l
def J0(b:Int):Prop:=0≤b∧b≤255
theorem c5Q(n:Int)(s:Nat):a5d n (s+1)=b0p n 0::a5d (n / 256) s:=by
 unfold a5d
 rw[List.range_succ_eq_map,List.map_cons,List.map_map]
 congr 1
 refine List.map_congr_left fun i _=> ?_
 simp only[Function.comp,b0p]
 rw[show 8*(i+1)=8+8*i by omega,Int.pow_add, ←Int.ediv_ediv_of_nonneg (by decide)]
 rfl
theorem c6l(n:Int)(s:Nat):∀b∈a5d n s,J0 b:=by
 intro b hb
 obtain⟨i,_,rfl⟩:=List.mem_map.1 hb
 unfold b0p J0
 omega
theorem c4W:∀(s:Nat) (n:Int),(leN (a5d n s):Int)=n % 2^(8*s)
 |0,n=>by simp[a5d,leN,Int.emod_one]
 |s+1,n=>by
  have ih:=c4W s (n / 256)
  rw[c5Q,leN]
  have hM:(0:Int)<2^(8*s):=Int.pow_pos (by decide)
  have hp:(2:Int)^(8*(s+1))=256*2^(8*s):=by rw[show 8*(s+1)=8+8*s by omega,Int.pow_add];rfl
  have hb:((b0p n 0).toNat:Int)=n % 256:=by
   have:b0p n 0=n % 256:=by simp[b0p]
   rw[this];omega
  rw[Int.natCast_add,Int.natCast_mul,ih,hb,hp]
  have h1:=Int.emod_nonneg (n / 256) (show(2:Int)^(8*s)≠0 by omega)
  have h2:=Int.emod_lt_of_pos (n / 256) hM
  have h3:=Int.mul_ediv_add_emod (n / 256) (2^(8*s))
  have h4:=Int.mul_ediv_add_emod n 256
  refine((Int.ediv_emod_unique (a:=n) (b:=256*2^(8*s)) (q:=n / 256 / 2^(8*s)) (by omega)).2 ⟨?_,by omega, ?_⟩).2.symm
  ·have:256*2^(8*s)*(n / 256 / 2^(8*s))=256*(2^(8*s)*(n / 256 / 2^(8*s))):=by rw[Int.mul_assoc]
   rw[this]
   omega
  ·omega
theorem c4L:∀ {l m:List Int},(∀b∈l,J0 b)→(∀b∈m,J0 b)→l.length=m.length→leN l=leN m→l=m
 | [],[],_,_,_,_=>rfl
 | [],b::m,_,_,h,_=>by simp at h
 |a::l,[],_,_,h,_=>by simp at h
 |a::l,b::m,hl,hm,h,e=>by
  obtain⟨a0,a1⟩:=hl a (by simp)
  obtain⟨b0,b1⟩:=hm b (by simp)
  simp only[leN]at e
  have hab:a=b:=by omega
  have hlm:leN l=leN m:=by omega
  rw[hab,c4L (fun x hx=>hl x (by simp[hx])) (fun x hx=>hm x (by simp[hx])) (by simpa using h) hlm]
theorem a7M:∀ {l:List Int},(∀b∈l,J0 b)→leN l<2^(8*l.length)
 | [],_=>by simp[leN]
 |a::l,h=>by
  obtain⟨a0,a1⟩:=h a (by simp)
  have ih:=a7M (fun x hx=>h x (by simp[hx]):∀b∈l,J0 b)
  have hp:2^(8*(l.length+1))=256*2^(8*l.length):=by rw[show 8*(l.length+1)=8+8*l.length by omega,Nat.pow_add]
  rw[leN,List.length_cons,hp]
  omega
def a4y(f:Fld):Prop:=1≤f.size∧((f.size≤7∧0≤f.lo∧f.hi<2^(8*f.size))∨(f.size≤7∧ -(2^(8*f.size - 1))≤f.lo∧f.hi<2^(8*f.size - 1))∨(f.size=8∧ -9223372036854775808≤f.lo∧f.hi≤9223372036854775807))
def rdN(f:Fld)(u:Nat):Option Int:=
 let n:=IntKind.i64.wrap (u:Int)
 let n':=if f.may n=false∧f.size<8 then n - 2^(8*f.size) else n
 if f.may n'=true then some n' else none
theorem c7M(z:Int):IntKind.i64.wrap z % 18446744073709551616=z % 18446744073709551616:=by
 simp only[IntKind.wrap,IntKind.bits,IntKind.signed];simp
 split<;>omega
theorem c7T{f:Fld}{u:Nat}{n:Int}(h:rdN f u=some n)(h8:f.size≤8):f.may n=true∧n % 2^(8*f.size)=(u:Int) % 2^(8*f.size):=by
 unfold rdN at h
 simp only at h
 obtain⟨n',hn'⟩:∃n',n'=if f.may (IntKind.i64.wrap (u:Int))=false∧f.size<8 then IntKind.i64.wrap (u:Int) - 2^(8*f.size) else IntKind.i64.wrap (u:Int):=⟨_,rfl⟩
 rw[←hn']at h
 have hw:IntKind.i64.wrap (u:Int) % 2^(8*f.size)=(u:Int) % 2^(8*f.size):=by
  have hd:((2:Int)^(8*f.size)) ∣ 18446744073709551616:=by
   refine⟨2^(64 - 8*f.size), ?_⟩
   rw[←Int.pow_add,show 8*f.size+(64 - 8*f.size)=64 by omega]
   rfl
  rw[←Int.emod_emod_of_dvd _ hd,c7M,Int.emod_emod_of_dvd _ hd]
 split at h
 ·rename_i hm
  cases h
  refine⟨hm, ?_⟩
  rw[hn']
  split
  ·rw[Int.sub_emod_right];exact hw
  ·exact hw
 ·cases h
def w9(bs:List Int)(f:Fld)(s:Nat×Int):Int×Nat×Int:=
 if s.2≠0 then(0,s.1,s.2) else if bs.length<s.1+f.size then(0,s.1,10) else
 match rdN f (leN ((bs.drop s.1).take f.size)) with
 |some n=>(n,s.1+f.size,0)
 |none=>(0,s.1,120)
theorem c0e{bs:List Int}{f:Fld}{s:Nat×Int}(h:s.2≠0):w9 bs f s=(0,s):=by
 unfold w9
 rw[if_pos h]
theorem c9U{bs:List Int}(hb:∀b∈bs,J0 b){f:Fld}(h8:f.size≤8){at_:Nat}{n:Int}{at':Nat}(h:w9 bs f (at_,0)=(n,at',0)):f.may n=true∧at'=at_+f.size∧at'≤bs.length∧(bs.drop at_).take f.size=a5d n f.size:=by
 unfold w9 at h
 rw[if_neg (by simp)]at h
 split at h
 ·cases h
 rename_i hlen
 simp only at h hlen
 split at h
 ·rename_i m hm
  cases h
  obtain⟨g1,g2⟩:=c7T hm h8
  have hbs:∀b∈(bs.drop at_).take f.size,J0 b:=fun b hb'=>hb b (List.mem_of_mem_drop (List.mem_of_mem_take hb'))
  have hl:((bs.drop at_).take f.size).length=f.size:=by rw[List.length_take,List.length_drop];omega
  refine⟨g1,rfl,by omega,c4L hbs (c6l _ _) (by rw[hl,C0]) ?_⟩
  have e1:=c4W f.size n
  have e2:=a7M hbs
  rw[hl]at e2
  have e3:((leN ((bs.drop at_).take f.size):Nat):Int)<2^(8*f.size):=by exact_mod_cast e2
  rw[g2,Int.emod_eq_of_lt (by omega) e3]at e1
  omega
 ·cases h
def vF(w:Int):Fld:=⟨8,a0Y w,a1a w⟩
def A5(bs:List Int)(w:Int):Nat→Nat×Int→List (Int×Int)→List (Int×Int)×(Nat×Int)
 |0,s,acc=>(acc,s)
 |n+1,s,acc=>if s.2≠0 then(acc,s) else
  A5 bs w n (w9 bs E1 (w9 bs (vF w) s).2).2 (acc++[((w9 bs (vF w) s).1,(w9 bs E1 (w9 bs (vF w) s).2).1)])
def I5(bs:List Int):List Fld→Nat×Int→Int×Int×(Nat×Int)
 | [],s=>(0,0,s)
 | [f],s=>((w9 bs f s).1,0,(w9 bs f s).2)
 |f::g::_,s=>((w9 bs f s).1,(w9 bs g (w9 bs f s).2).1,(w9 bs g (w9 bs f s).2).2)
abbrev Dat:=Int×Int×Int×List (Int×Int)
def a4A(bs:List Int)(op a:Int)(s:Nat×Int):Dat×(Nat×Int):=
 ((op,a,(w9 bs E1 (A5 bs (IntKind.u8.wrap a) (w9 bs fIx s).1.toNat (w9 bs fIx s).2 []).2).1,(A5 bs (IntKind.u8.wrap a) (w9 bs fIx s).1.toNat (w9 bs fIx s).2 []).1),
  (w9 bs E1 (A5 bs (IntKind.u8.wrap a) (w9 bs fIx s).1.toNat (w9 bs fIx s).2 []).2).2)
def a5l(bs:List Int)(at_:Nat):Dat×(Nat×Int):=
 if bs.getD at_ 0=49 then a4A bs 49 (I5 bs ((lay (bs.getD at_ 0)).getD []) (at_+1,0)).1 (I5 bs ((lay (bs.getD at_ 0)).getD []) (at_+1,0)).2.2
 else((bs.getD at_ 0,(I5 bs ((lay (bs.getD at_ 0)).getD []) (at_+1,0)).1,(I5 bs ((lay (bs.getD at_ 0)).getD []) (at_+1,0)).2.1,[]),(I5 bs ((lay (bs.getD at_ 0)).getD []) (at_+1,0)).2.2)
def b8p:Dat:=(0,0,0,[])
def b1Z(bs:List Int)(at_:Nat):Dat×(Nat×Int):=
 if lay (bs.getD at_ 0)=none then(b8p,(0,120)) else if(a5l bs at_).2.2≠0 then(b8p,(0,(a5l bs at_).2.2)) else a5l bs at_
def In.dat(x:In):Dat:=(x.op,x.a,x.b,x.arms)
theorem c5A{c:Prop}[Decidable c]{a b:Option (List Fld)}(ha:∀f∈a.getD [],a4y f)(hb:∀f∈b.getD [],a4y f):∀f∈(if c then a else b).getD [],a4y f:=by
 by_cases h:c
 ·rw[if_pos h];exact ha
 ·rw[if_neg h];exact hb
theorem b3w(op:Int):∀f∈(lay op).getD [],a4y f:=by
 unfold lay c1w c3t c3O c3G
 repeat' apply c5A
 all_goals (intro f hf;simp only[Option.getD_some,Option.getD_none,List.mem_cons,List.not_mem_nil,or_false,or_self,false_or,fIx,E1,a4a]at hf)
 all_goals (subst hf)
 all_goals (first|exact⟨by decide, .inl ⟨by decide,by decide,by decide⟩⟩|exact⟨by decide, .inr (.inl ⟨by decide,by decide,by decide⟩)⟩|exact⟨by decide, .inr (.inr ⟨by decide,by decide,by decide⟩)⟩)
theorem a6y:a4y E1:=⟨by decide, .inl ⟨by decide,by decide,by decide⟩⟩
theorem c7H:a4y fIx:=⟨by decide, .inl ⟨by decide,by decide,by decide⟩⟩
theorem c4l(w:Int):a4y (vF w):=by
 refine⟨by show 1≤8;omega, .inr (.inr ⟨rfl, ?_, ?_⟩)⟩
 ·show _≤a0Y w
  unfold a0Y
  repeat' split
  all_goals omega
 ·show a1a w≤_
  unfold a1a
  repeat' split
  all_goals omega
theorem c8h(w:Int)(y:Int×Int):c1g w y=((vF w).may y.1&&E1.may y.2):=rfl
theorem b2Z{x:In}(h:isS x=true):∃l,lay x.op=some l∧b6X x 0 l=true∧(x.op=49→x.arms.length≤65535∧x.arms.all (c1g (IntKind.u8.wrap x.a))=true∧E1.may x.b=true)∧(x.op≠49→x.arms=[]∧(l.length<2→x.b=0)∧(l.length<1→x.a=0)):=by
 unfold isS at h
 cases hl:lay x.op with
 |none=>rw[hl]at h;simp at h
 |some l=>
  rw[hl]at h
  simp only[Option.isSome_some,Bool.true_and,Option.getD_some,Bool.and_eq_true]at h
  refine⟨l,rfl,h.1,fun h49=> ?_,fun h49=> ?_⟩
  ·have h2:=h.2
   rw[if_pos h49]at h2
   simp only[Bool.and_eq_true,decide_eq_true_eq]at h2
   exact⟨h2.1.1,h2.1.2,by unfold Fld.may;exact decide_eq_true h2.2⟩
  ·have h2:=h.2
   rw[if_neg h49]at h2
   simp only[Bool.and_eq_true,Bool.or_eq_true,decide_eq_true_eq]at h2
   exact⟨List.length_eq_zero_iff.1 h2.1.1,fun hn=>h2.1.2.resolve_left (by omega),fun hn=>h2.2.resolve_left (by omega)⟩
theorem c4w{l:List Fld}{op:Int}(h:lay op=some l)(h49:op=49):l=[a4a]:=by
 rw[h49]at h
 have:lay 49=some [a4a]:=rfl
 rw[this]at h
 cases h
 rfl
theorem b7m:∀(l:List Int) (b:Int),leN (l++[b])=leN l+b.toNat*2^(8*l.length)
 | [],b=>by simp[leN]
 |a::l,b=>by
  have hp:2^(8*(l.length+1))=256*2^(8*l.length):=by rw[show 8*(l.length+1)=8+8*l.length by omega,Nat.pow_add]
  rw[List.cons_append,leN,leN,b7m l b,List.length_cons,hp,Nat.mul_add, ←Nat.add_assoc]
  congr 1
  rw[Nat.mul_left_comm]
theorem a2z{bs:List Int}{f:Fld}{s:Nat×Int}(h:s.1≤bs.length):(w9 bs f s).2.1≤bs.length:=by
 unfold w9
 split
 ·exact h
 split
 ·exact h
 ·split
  ·simp only;omega
  ·exact h
theorem c2K(u:Int):I64 (IntKind.i64.wrap u):=by
 unfold I64
 simp only[IntKind.wrap,IntKind.bits,IntKind.signed];simp
 split<;>omega
def b6R(bs:List Int):Nat→Int→Int→Nat×Int→List Fld→Int×Int×(Nat×Int)
 |_,a,b,s,[]=>(a,b,s)
 |i,a,b,s,f::l=>b6R bs (i+1) (if i=0 then(w9 bs f s).1 else a) (if i=0 then b else(w9 bs f s).1) (w9 bs f s).2 l
theorem c7e{bs:List Int}{s:Nat×Int}:∀ {l:List Fld},l.length≤2→b6R bs 0 0 0 s l=I5 bs l s
 | [],_=>rfl
 | [f],_=>rfl
 | [f,g],_=>rfl
 |_::_::_::_,h=>by simp at h
def s4(bs:List Int)(n:Int):Dat×(Nat×Int):=if n<0∨n≥bs.length then(b8p,(0,2)) else b1Z bs n.toNat
section
variable{bs es:List Int}{i:Nat}{f:Fld}{s sb sE:Nat×Int}
theorem b2o(h:(w9 bs f s).2.2=0):s.2=0:=by
 by_cases hs:s.2=0
 ·exact hs
 ·rw[c0e hs]at h;exact h
theorem b0C{w:Int}{n:Nat}{acc:List (Int×Int)}(h:s.2≠0):A5 bs w n s acc=(acc,s):=by
 cases n with
 |zero=>rfl
 |succ n=>rw[A5,if_pos h]
theorem a6c{w:Int}{n:Nat}{acc:List (Int×Int)}(h:(A5 bs w n s acc).2.2=0):s.2=0:=by
 by_cases hs:s.2=0
 ·exact hs
 ·rw[b0C hs]at h;exact h
end
theorem c0Y(x:In):1≤(a6E x).length:=by unfold a6E;simp
section
variable{bs l m:List Int}{f:Fld}{s:Nat×Int}{p:Nat}
def Seg(bs:List Int)(p:Nat)(l:List Int):Prop:=p+l.length≤bs.length∧(bs.drop p).take l.length=l
theorem Seg.append(h:Seg bs p l)(g:Seg bs (p+l.length) m):Seg bs p (l++m):=by
 obtain⟨h1,h2⟩:=h
 obtain⟨g1,g2⟩:=g
 refine⟨by rw[List.length_append];omega, ?_⟩
 rw[List.length_append,List.take_add,h2,List.drop_drop,g2]
theorem Seg.nil(h:p≤bs.length):Seg bs p []:=⟨by simpa using h,rfl⟩
theorem a9Z(hb:∀b∈bs,J0 b)(h8:f.size≤8)(h:(w9 bs f s).2.2=0):s.2=0∧f.may (w9 bs f s).1=true∧(w9 bs f s).2.1=s.1+f.size∧Seg bs s.1 (a5d (w9 bs f s).1 f.size):=by
 have h0:=b2o h
 obtain⟨p,e⟩:=s
 simp only at h0
 subst h0
 obtain⟨n,q,e,hr⟩:∃n q e,w9 bs f (p,0)=(n,q,e):=⟨_,_,_,rfl⟩
 rw[hr]at h ⊢
 simp only at h
 subst h
 obtain⟨a1,a2,a3,a4⟩:=c9U hb h8 hr
 exact⟨rfl,a1,a2,by rw[C0];simp only;omega,by rw[C0];exact a4⟩
theorem c8a(h:s.1≤bs.length):(w9 bs f s).2.1≤bs.length:=by
 unfold w9
 split
 ·exact h
 split
 ·exact h
 ·split
  ·simp only;omega
  ·exact h
theorem a3A(h:a4y f):f.size≤8:=by
 obtain⟨_,h|h|h⟩:=h<;>omega
theorem a8V{n:Int}(h:a4y f)(hm:f.may n=true):I64 n:=by
 have hm:=of_decide_eq_true hm
 obtain⟨h1,⟨h7,hlo,hhi⟩|⟨h7,hlo,hhi⟩|⟨h8,hlo,hhi⟩⟩:=h
 ·have hle:(2:Int)^(8*f.size)≤2^56:=by
   have:2^(8*f.size)≤2^56:=Nat.pow_le_pow_right (by decide) (by omega)
   exact_mod_cast this
  exact⟨by omega,by omega⟩
 ·have hle:(2:Int)^(8*f.size - 1)≤2^56:=by
   have:2^(8*f.size - 1)≤2^56:=Nat.pow_le_pow_right (by decide) (by omega)
   exact_mod_cast this
  exact⟨by omega,by omega⟩
 ·exact⟨by omega,by omega⟩
theorem b5X(hb:∀b∈bs,J0 b){x:In}:∀ {l:List Fld},(∀f∈l,a4y f)→l.length≤2→s.1≤bs.length→(I5 bs l s).2.2.2=0→(x.a=(I5 bs l s).1)→(2≤l.length→x.b=(I5 bs l s).2.1)→
  b6X x 0 l=true∧Seg bs s.1 (b3n x 0 l)∧(I5 bs l s).2.2.1=s.1+(b3n x 0 l).length∧I64 x.a∧(2≤l.length→I64 x.b)∧(l.length<2→(I5 bs l s).2.1=0)∧(l.length<1→x.a=0)
 | [],_,_,hs,h,ha,_=>by
  have ha:x.a=0:=ha
  exact⟨rfl,Seg.nil hs,rfl,by rw[ha];exact⟨by decide,by decide⟩,fun h=>by simp at h,fun _=>rfl,fun _=>ha⟩
 | [f],hg,_,hs,h,ha,_=>by
  have hf:=hg f (by simp)
  obtain⟨h0,h1,h2,h3⟩:=a9Z hb (a3A hf) (show(w9 bs f s).2.2=0 from h)
  have ha:x.a=(w9 bs f s).1:=ha
  have hn:x.num 0=(w9 bs f s).1:=ha
  refine⟨by simp[b6X,hn,h1],by simpa [b3n,hn]using h3, ?_,by rw[ha];exact a8V hf h1,fun h=>by simp at h,fun _=>rfl,fun h=>by simp at h⟩
  simp only[b3n,hn,List.append_nil,C0]
  exact h2
 | [f,g],hg,_,hs,h,ha,hbb=>by
  have hf:=hg f (by simp)
  have hg:=hg g (by simp)
  have hb2:x.b=(w9 bs g (w9 bs f s).2).1:=hbb (by simp)
  obtain⟨k0,k1,k2,k3⟩:=a9Z hb (a3A hg) (show(w9 bs g (w9 bs f s).2).2.2=0 from h)
  obtain⟨h0,h1,h2,h3⟩:=a9Z hb (a3A hf) k0
  have ha:x.a=(w9 bs f s).1:=ha
  have hn:x.num 0=(w9 bs f s).1:=ha
  have hn1:x.num 1=(w9 bs g (w9 bs f s).2).1:=hb2
  refine⟨by simp[b6X,hn,hn1,h1,k1], ?_, ?_,by rw[ha];exact a8V hf h1,fun _=>by rw[hb2];exact a8V hg k1,fun h=>by simp at h,fun h=>by simp at h⟩
  ·simp only[b3n,hn,hn1,List.append_nil]
   refine h3.append ?_
   rw[C0, ←h2];exact k3
  ·simp only[b3n,hn,hn1,List.append_nil,List.length_append,C0]
   show(w9 bs g (w9 bs f s).2).2.1=_
   omega
 |_::_::_::_,_,h,_,_,_,_=>by simp at h
theorem c2n(hb:∀b∈bs,J0 b){w:Int}:∀(n:Nat) (s:Nat×Int) (acc:List (Int×Int)),s.1≤bs.length→(A5 bs w n s acc).2.2=0→
  ∃new,(A5 bs w n s acc).1=acc++new∧new.length=n∧new.all (c1g w)=true∧Seg bs s.1 (a9u new)∧(A5 bs w n s acc).2.1=s.1+(a9u new).length∧(∀y∈new,I64 y.1∧I64 y.2)
 |0,s,acc,hs,h=>⟨[],by simp[A5],rfl,rfl,Seg.nil hs,rfl,fun y hy=>by cases hy⟩
 |n+1,s,acc,hs,h=>by
  have h0:=a6c h
  have eE:A5 bs w (n+1) s acc=A5 bs w n (w9 bs E1 (w9 bs (vF w) s).2).2 (acc++[((w9 bs (vF w) s).1,(w9 bs E1 (w9 bs (vF w) s).2).1)]):=by rw[A5,if_neg (by simp[h0])]
  rw[eE]at h ⊢
  obtain⟨k0,k1,k2,k3⟩:=a9Z hb (by decide) (a6c h:(w9 bs E1 (w9 bs (vF w) s).2).2.2=0)
  obtain⟨h0,h1,h2,h3⟩:=a9Z hb (by show 8≤8;omega) k0
  have hle:(w9 bs E1 (w9 bs (vF w) s).2).2.1≤bs.length:=by
   have:=k3.1
   rw[C0]at this
   omega
  obtain⟨new,e1,e2,e3,e4,e5,e6⟩:=c2n hb n _ _ hle h
  have sz1:(vF w).size=8:=rfl
  have sz2:E1.size=4:=rfl
  refine⟨((w9 bs (vF w) s).1,(w9 bs E1 (w9 bs (vF w) s).2).1)::new,by rw[e1];simp,by simp[e2], ?_, ?_, ?_, ?_⟩
  ·rw[List.all_cons,c8h,h1,k1,e3];rfl
  ·have:a9u (((w9 bs (vF w) s).1,(w9 bs E1 (w9 bs (vF w) s).2).1)::new)=(a5d (w9 bs (vF w) s).1 8++a5d (w9 bs E1 (w9 bs (vF w) s).2).1 4)++a9u new:=by simp[a9u,c9L]
   rw[this]
   refine(Seg.append h3 ?_).append ?_
   ·rw[C0, ←h2];exact k3
   ·rw[List.length_append,C0,C0]
    rw[sz1]at h2
    rw[sz2]at k2
    have:s.1+(8+4)=(w9 bs E1 (w9 bs (vF w) s).2).2.1:=by omega
    rw[sz1,this];exact e4
  ·rw[e5,a5T,a5T,List.length_cons]
   omega
  ·intro y hy
   rcases List.mem_cons.1 hy with rfl|hy
   ·exact⟨a8V (c4l w) h1,a8V a6y k1⟩
   ·exact e6 y hy
theorem c9s(hb:∀b∈bs,J0 b)(hp:p<bs.length){op a b:Int}{arms:List (Int×Int)}{next:Nat}(h:b1Z bs p=((op,a,b,arms),(next,0))){x:In}(hx:x.dat=(op,a,b,arms)):
  x.Ok∧isS x=true∧Seg bs p (a6E x)∧next=p+(a6E x).length:=by
 have hlay:lay (bs.getD p 0)≠none:=by
  intro e
  unfold b1Z at h
  rw[if_pos e]at h
  have:=congrArg (fun d=>d.2.2) h
  simp at this
 have hX:a5l bs p=((op,a,b,arms),(next,0)):=by
  unfold b1Z at h
  rw[if_neg hlay]at h
  by_cases h0:(a5l bs p).2.2=0
  ·rw[if_neg (by simp[h0])]at h;exact h
  ·rw[if_pos h0]at h
   have:=congrArg (fun d=>d.2.2) h
   exact(h0 this).elim
 obtain⟨l,hl⟩:=Option.ne_none_iff_exists'.1 hlay
 obtain⟨hx1,hx2,hx3,hx4⟩:x.op=op∧x.a=a∧x.b=b∧x.arms=arms:=by
  have e:=hx
  unfold In.dat at e
  simp only[Prod.mk.injEq]at e
  exact e
 have hgood:=b3w (bs.getD p 0)
 have hlen:=b0o (op:=bs.getD p 0)
 rw[hl]at hgood hlen
 simp only[Option.getD_some]at hgood hlen
 have hby:J0 (bs.getD p 0):=by
  rw[List.getD_eq_getElem?_getD,List.getElem?_eq_getElem hp]
  exact hb _ (List.getElem_mem _)
 have hseg0:Seg bs p [bs.getD p 0]:=by
  refine⟨by simp;omega, ?_⟩
  rw[List.getD_eq_getElem?_getD,List.getElem?_eq_getElem hp]
  show(bs.drop p).take 1=[bs[p]]
  rw[List.drop_eq_getElem_cons hp]
  rfl
 unfold a5l at hX
 rw[hl,Option.getD_some]at hX
 by_cases h49:bs.getD p 0=49
 ·rw[if_pos h49]at hX
  have hl1:l=[a4a]:=c4w hl h49
  subst hl1
  unfold a4A at hX
  obtain⟨r,hr⟩:∃r,r=I5 bs [a4a] (p+1,0):=⟨_,rfl⟩
  rw[←hr]at hX
  simp only[Prod.mk.injEq]at hX
  obtain⟨⟨q1,q2,q3,q4⟩,q5⟩:=hX
  have t0:=congrArg Prod.snd q5
  simp only at t0
  obtain⟨u0,u1,u2,u3⟩:=a9Z hb (by decide) t0
  have v0:=a6c u0
  obtain⟨w0,w1,w2,w3⟩:=a9Z hb (by decide) v0
  have hop:x.op=49:=by rw[hx1, ←q1]
  have ha:x.a=r.1:=by rw[hx2, ←q2]
  obtain⟨y1,y2,y3,y4,y5,y6,y7⟩:=b5X (x:=x) (s:=(p+1,0)) hb hgood hlen (by simp only;omega) (by rw[←hr];exact w0) (by rw[←hr];exact ha) (fun h=>by simp at h)
  rw[←hr]at y3
  have hle1:r.2.2.1≤bs.length:=by rw[y3];exact y2.1
  have hle2:(w9 bs fIx r.2.2).2.1≤bs.length:=c8a hle1
  obtain⟨new,e1,e2,e3,e4,e5,e6⟩:=c2n hb _ _ _ hle2 u0
  rw[List.nil_append]at e1
  have harms:x.arms=new:=by rw[hx4, ←q4,e1]
  have hb2:=hx3.trans q3.symm
  have hcnt:=of_decide_eq_true w1
  have hcnt0:0≤(w9 bs fIx r.2.2).1∧(w9 bs fIx r.2.2).1≤65535:=hcnt
  have hn:((new.length:Nat):Int)=(w9 bs fIx r.2.2).1:=by rw[e2];omega
  have hlv:=of_decide_eq_true u1
  have hS:isS x=true:=by
   unfold isS
   rw[hop,if_pos rfl,show lay 49=some [a4a]from rfl,Option.getD_some,y1,harms,ha,e3,hb2]
   simp only[Option.isSome_some,Bool.true_and,Bool.and_true,Bool.and_eq_true,decide_eq_true_eq]
   exact⟨by omega,hlv⟩
  have hE:a6E x=[49]++b3n x 0 [a4a]++(a5d (w9 bs fIx r.2.2).1 2++a9u new++a5d x.b 4):=by
   unfold a6E
   rw[hop,if_pos rfl,show lay 49=some [a4a]from rfl,Option.getD_some,harms,hn]
   simp
  have hsg:Seg bs p (a6E x):=by
   rw[hE]
   rw[h49]at hseg0
   refine(hseg0.append y2).append (Seg.append (Seg.append ?_ ?_) ?_)
   ·have:p+([49]++b3n x 0 [a4a]).length=r.2.2.1:=by rw[y3,List.length_append];simp;omega
    rw[this];exact w3
   ·have:p+([49]++b3n x 0 [a4a]).length+(a5d (w9 bs fIx r.2.2).1 2).length=(w9 bs fIx r.2.2).2.1:=by
     rw[w2,y3,List.length_append,C0];show _=_+2;simp;omega
    rw[this];exact e4
   ·have:p+([49]++b3n x 0 [a4a]).length+(a5d (w9 bs fIx r.2.2).1 2++a9u new).length=(A5 bs (IntKind.u8.wrap r.1) (w9 bs fIx r.2.2).1.toNat (w9 bs fIx r.2.2).2 []).2.1:=by
     rw[e5,w2,y3,List.length_append,List.length_append,C0];show _=_+2+_;simp;omega
    rw[this,hb2];exact u3
  refine⟨⟨by rw[hop];decide,y4,by rw[hb2];exact a8V a6y u1,by rw[harms];exact e6,by rw[harms];omega⟩,hS,hsg, ?_⟩
  have t1:=congrArg Prod.fst q5
  simp only at t1
  rw[←t1,u2,e5,w2,y3,hE]
  simp only[List.length_append,C0,List.length_cons,List.length_nil]
  show _+2+_+4=_
  omega
 ·rw[if_neg h49]at hX
  simp only[Prod.mk.injEq]at hX
  obtain⟨⟨q1,q2,q3,q4⟩,q5⟩:=hX
  have t0:=congrArg Prod.snd q5
  simp only at t0
  have hop:x.op=bs.getD p 0:=by rw[hx1, ←q1]
  obtain⟨y1,y2,y3,y4,y5,y6,y7⟩:=b5X (x:=x) (s:=(p+1,0)) hb hgood hlen (by simp only;omega) t0 (by rw[hx2, ←q2]) (fun _=>by rw[hx3, ←q3])
  have harms:x.arms=[]:=by rw[hx4, ←q4]
  have hbz:l.length<2→x.b=0:=fun h=>by rw[hx3, ←q3];exact y6 h
  have hop49:x.op≠49:=by rw[hop];exact h49
  have hlx:lay x.op=some l:=by rw[hop];exact hl
  have hS:isS x=true:=by
   unfold isS
   rw[if_neg hop49,hlx,Option.getD_some,y1,harms]
   simp only[Option.isSome_some,Bool.true_and,List.length_nil,decide_true,Bool.and_eq_true,Bool.or_eq_true,decide_eq_true_eq]
   refine⟨?_, ?_⟩
   ·by_cases h2:2≤l.length
    ·exact .inl h2
    ·exact .inr (hbz (by omega))
   ·by_cases h2:1≤l.length
    ·exact .inl h2
    ·exact .inr (y7 (by omega))
  have hE:a6E x=[bs.getD p 0]++b3n x 0 l:=by
   unfold a6E
   rw[if_neg hop49,hlx,Option.getD_some,hop]
   simp
  refine⟨⟨by rw[hop];exact hby,y4, ?_,(by rw[harms];intro y hy;cases hy),by rw[harms];decide⟩,hS,by rw[hE];exact hseg0.append y2, ?_⟩
  ·by_cases h2:2≤l.length
   ·exact y5 h2
   ·rw[hbz (by omega)];exact⟨by decide,by decide⟩
  ·have t1:=congrArg Prod.fst q5
   simp only at t1
   rw[←t1,y3,hE]
   simp
   omega
end
theorem c0S{bs:List Int}(hb:∀b∈bs,J0 b){n:Int}(h:(s4 bs n).2.2=0){x:In}(hx:x.dat=(s4 bs n).1):
  0≤n∧n.toNat<bs.length∧x.Ok∧isS x=true∧Seg bs n.toNat (a6E x)∧(s4 bs n).2.1=n.toNat+(a6E x).length:=by
 by_cases hn:n<0∨n≥bs.length
 ·unfold s4 at h
  rw[if_pos hn]at h
  simp at h
 ·have hd:s4 bs n=b1Z bs n.toNat:=by unfold s4;rw[if_neg hn]
  rw[hd]at h hx ⊢
  obtain⟨d,next,e,hde⟩:∃d next e,b1Z bs n.toNat=(d,(next,e)):=⟨_,_,_,rfl⟩
  obtain⟨op,a,b,arms⟩:=d
  rw[hde]at h hx ⊢
  simp only at h hx ⊢
  subst h
  obtain⟨a1,a2,a3,a4⟩:=c9s hb (by omega) hde hx
  exact⟨by omega,by omega,a1,a2,a3,a4⟩
def upR(f:Fld)(u:Nat):Int:=if f.lo<0∧f.size<8∧u / 2^(8*f.size - 1)=1 then IntKind.u64.wrap ((u:Int) - 2^(8*f.size)) else u
theorem c9g{f:Fld}(hf:a4y f){u:Nat}(hu:u<2^(8*f.size)):rdN f u=if f.may (IntKind.i64.wrap (upR f u))=true then some (IntKind.i64.wrap (upR f u)) else none:=by
 have iw:∀z:Int,IntKind.i64.wrap z=if 9223372036854775808≤z % 18446744073709551616 then z % 18446744073709551616 - 18446744073709551616 else z % 18446744073709551616:=by
  intro z
  simp only[IntKind.wrap,IntKind.bits,IntKind.signed];simp
 obtain⟨h1,hf⟩:=hf
 have may_f:∀n:Int,n<f.lo→f.may n=false:=fun n h=>decide_eq_false (by omega)
 have may_g:∀n:Int,f.hi<n→f.may n=false:=fun n h=>decide_eq_false (by omega)
 by_cases h8:f.size=8
 ·have:upR f u=u:=by unfold upR;rw[if_neg (by omega)]
  rw[this]
  unfold rdN
  simp only
  rw[if_neg (show ¬(f.may (IntKind.i64.wrap (u:Int))=false∧f.size<8) by omega)]
 have h7:f.size≤7:=by omega
 obtain⟨M,hM⟩:∃M:Nat,M=2^(8*f.size - 1):=⟨_,rfl⟩
 have hM2:2^(8*f.size)=2*M:=by rw[hM,show 8*f.size=1+(8*f.size - 1) by omega,Nat.pow_add,show 1+(8*f.size - 1) - 1=8*f.size - 1 by omega]
 have hMi:(2:Int)^(8*f.size)=2*(M:Int):=by have:((2^(8*f.size):Nat):Int)=((2*M:Nat):Int):=by rw[hM2]
                                           simpa using this
 have hMj:(2:Int)^(8*f.size - 1)=(M:Int):=by rw[hM];simp
 have hMl:M≤2^55:=by rw[hM];exact Nat.pow_le_pow_right (by decide) (by omega)
 rw[hM2]at hu
 have hn:IntKind.i64.wrap (u:Int)=u:=i6 (by omega) (by omega)
 unfold rdN
 simp only[hn,hMi]
 by_cases hs:f.lo<0∧f.size<8∧u / M=1
 ·have hup:upR f u=IntKind.u64.wrap ((u:Int) - 2*M):=by unfold upR;rw[←hM,if_pos hs,hMi]
  have huM:M≤u:=by
   refine Nat.le_of_not_lt fun h=> ?_
   have:=Nat.div_eq_of_lt h
   omega
  have hw:IntKind.i64.wrap (upR f u)=(u:Int) - 2*M:=by
   rw[hup,c1v,iw];split<;>omega
  have hno:f.may (u:Int)=false:=may_g _ (by
   rcases hf with ⟨_,a,b⟩|⟨_,a,b⟩|⟨a,_⟩
   ·omega
   ·rw[hMj]at b;omega
   ·omega)
  rw[hw]
  simp[hno,show f.size<8 by omega]
 ·have hup:upR f u=u:=by unfold upR;rw[←hM,if_neg hs]
  rw[hup,hn]
  cases hm:f.may (u:Int) with
  |true=>simp[hm]
  |false=>
   have hno:f.may ((u:Int) - 2*M)=false:=by
    by_cases hlo:f.lo<0
    ·have hd:¬u / M=1:=fun h=>hs ⟨hlo,by omega,h⟩
     have huM:u<M:=by
      refine Nat.lt_of_not_le fun h=>hd ?_
      exact Nat.div_eq_of_lt_le (by omega) (by omega)
     refine may_f _ ?_
     rcases hf with ⟨_,a,b⟩|⟨_,a,b⟩|⟨a,_⟩
     ·omega
     ·rw[hMj]at a;omega
     ·omega
    ·exact may_f _ (by omega)
   simp[hno,show f.size<8 by omega]
theorem b8S{bs:List Int}{w:Int}:∀(n:Nat) (s:Nat×Int) (acc:List (Int×Int)),s.1≤bs.length→(A5 bs w n s acc).2.1≤bs.length
 |0,s,acc,h=>h
 |n+1,s,acc,h=>by
  rw[A5]
  split
  ·exact h
  ·exact b8S n _ _ (a2z (a2z h))
def a2r(bs:List Int):Nat→Nat→Except Int (List (Dat×Nat))
 |0,_=> .ok []
 |n+1,p=>if bs.length≤p then .ok []else if(s4 bs p).2.2=0 then(match a2r bs n (s4 bs p).2.1 with| .ok l=> .ok (((s4 bs p).1,p)::l)| .error e=> .error e) else .error (s4 bs p).2.2
def c0W(done:List (Dat×Nat)):Except Int (List (Dat×Nat))→Except Int (List (Dat×Nat))
 | .ok l=> .ok (done++l)
 | .error e=> .error e
def c2o(op:Int):Option (List Fld):=
 if op=1 then some [⟨1, -128,127⟩]else if op=2 then some [⟨4, -2147483648,2147483647⟩]else if op=3 then some [⟨8, -9223372036854775808,9223372036854775807⟩]
 else if(op==6||op==7||op==8||op==50||op==36||decide (39≤op∧op≤45))=true then some [fIx]else if(op==37||op==38)=true then some [fIx,fIx]
 else if(op==23||op==24)=true then some [⟨1,1,5⟩]else if decide (11≤op∧op≤28)=true then some [a4a]else if op=29 then some [a4a,a4a]
 else if(op==46||op==47||op==48)=true then some [E1]else if op=52 then some [⟨1,0,255⟩]else if op=49 then some [a4a]else if decide (1≤op∧op≤52)=true then some []else none
theorem c8y(op:Int):c2o op=lay op:=by
 unfold c2o lay
 by_cases h1:op=1
 ·rw[if_pos h1,if_pos h1];rfl
 rw[if_neg h1,if_neg h1]
 by_cases h2:op=2
 ·rw[if_pos h2,if_pos h2];rfl
 rw[if_neg h2,if_neg h2]
 by_cases h3:op=3
 ·rw[if_pos h3,if_pos h3];rfl
 rw[if_neg h3,if_neg h3]
 unfold c1w
 have e:(op==6||op==7||op==8||op==50||op==36||decide (39≤op∧op≤45))=(op==6||op==7||op==8||op==50||op==36||op==39||op==40||op==41||op==42||op==43||op==44||op==45):=by
  rw[Bool.eq_iff_iff]
  simp only[Bool.or_eq_true,beq_iff_eq,decide_eq_true_eq]
  omega
 rw[e]
 by_cases h4:(op==6||op==7||op==8||op==50||op==36||op==39||op==40||op==41||op==42||op==43||op==44||op==45)=true
 ·rw[if_pos h4,if_pos h4]
 rw[if_neg h4,if_neg h4]
 unfold c3t
 by_cases h5:(op==37||op==38)=true
 ·rw[if_pos h5,if_pos h5]
 rw[if_neg h5,if_neg h5]
 unfold c3O
 by_cases h6:(op==23||op==24)=true
 ·rw[if_pos h6,if_pos h6]
 rw[if_neg h6,if_neg h6]
 unfold c3G
 by_cases h7:11≤op∧op≤28
 ·have g1:¬(op==46||op==47||op==48)=true:=by simp only[Bool.or_eq_true,beq_iff_eq];omega
  rw[if_pos (by simpa using h7),if_neg (show ¬op=29 by omega),if_neg g1,if_neg (show ¬op=52 by omega),if_neg (show ¬op=49 by omega),if_pos h7]
 ·have g1:¬decide (11≤op∧op≤28)=true:=by simpa using h7
  rw[if_neg g1]
  by_cases h8:op=29
  ·rw[if_pos h8,if_pos h8]
  rw[if_neg h8,if_neg h8]
  by_cases h9:(op==46||op==47||op==48)=true
  ·rw[if_pos h9,if_pos h9]
  rw[if_neg h9,if_neg h9]
  by_cases h10:op=52
  ·rw[if_pos h10,if_pos h10]
  rw[if_neg h10,if_neg h10]
  by_cases h11:op=49
  ·rw[if_pos h11,if_pos h11]
  rw[if_neg h11,if_neg h11,if_neg h7]
  by_cases h12:1≤op∧op≤52
  ·rw[if_pos (by simpa using h12),if_pos h12]
  ·rw[if_neg (by simpa using h12),if_neg h12]
end Go.Op
end
