/-
  BlocksJoinSaid: part Oas of its proof.
-/
import Derived.Test.YtdkidgkiplcggaaOar
set_option linter.unusedVariables false
set_option linter.unusedSimpArgs false
set_option maxRecDepth 100000
section
namespace Go.Am
section
variable{P:Program}{E:d6}{w0:i7}
@[simp] theorem oD{α:Type}(a:α)(Q:α→Prop):a8 (some a) Q=Q a:=(rfl)
@[simp] theorem cdT(a b:Prop):d9 (.bool true) a b=a:=(rfl)
@[simp] theorem cdF(a b:Prop):d9 (.bool false) a b=b:=(rfl)
theorem cdB(t:Bool)(a b:Prop):d9 (.bool t) a b↔(t=true→a)∧(t=false→b):=by cases t<;>simp
theorem cdI(p:Prop)[Decidable p](a b:Prop):d9 (.bool (decide p)) a b↔(p→a)∧(¬p→b):=by
 by_cases h:p<;>simp[h]
@[simp] theorem gdT(s:(D→b5→Prop)→Prop)(S:b5)(Q:D→b5→Prop):a0J (some true) s S Q=s Q:=(rfl)
@[simp] theorem gdF(s:(D→b5→Prop)→Prop)(S:b5)(Q:D→b5→Prop):a0J (some false) s S Q=Q b6 S:=(rfl)
@[simp] theorem vdT(r:Option D):c8 (some true) r=r:=(rfl)
@[simp] theorem vdF(r:Option D):c8 (some false) r=some b6:=(rfl)
@[simp] theorem wdB(b w:Bool):b7 (.bool b) w=some (b==w):=(rfl)
@[simp] theorem wdU(w:Bool):b7 b6 w=some false:=(rfl)
@[simp] theorem pdB(t:Bool)(a b:D):F5 (.bool t) a b=some (if t then a else b):=(rfl)
@[simp] theorem exD(vs:List D)(i:Nat):m6 (.tup vs) i=vs[i]? :=(rfl)
@[simp] theorem ndP(k i:Nat):a2M (.ptr k i)=some (.ptr k i):=(rfl)
@[simp] theorem ndR(k r i sz:Nat):a2M (.rel k r i sz)=some (.rel k r i sz):=(rfl)
@[simp] theorem ndE(row:List D)(i:Nat):a2M (.elt row i)=some (.elt row i):=(rfl)
@[simp] theorem ndF(f:FuncId)(a b:List D):a2M (.fn (.func f) a b)=some (.fn (.func f) a b):=(rfl)
@[simp] theorem ndI(t:TypeId)(v:D):a2M (.ifc t v)=some (.ifc t v):=(rfl)
@[simp] theorem ofP(k i o:Nat):t6 o (.ptr k i)=some (.ptr k (i+o)):=(rfl)
@[simp] theorem ofR(k r i sz o:Nat):t6 o (.rel k r i sz)=some (.rel k r (i+o) sz):=(rfl)
@[simp] theorem ofE(row:List D)(i o:Nat):t6 o (.elt row i)=some (.elt row (i+o)):=(rfl)
@[simp] theorem paA(off n:Nat)(cs:List D):b5t off n (.agg cs)=some (.agg ((cs.drop off).take n)):=(rfl)
@[simp] theorem psA(off:Nat)(cs:List D):b5E off (.agg cs)=cs[off]? :=(rfl)
@[simp] theorem lnN:j8 .nilSlc=some (.int .i64 0):=(rfl)
@[simp] theorem lnL(rows:List (List D))(sz:Nat):j8 (.lst rows sz)=some (.int .i64 rows.length):=(rfl)
@[simp] theorem lnE(rows more:List (List D))(sz:Nat):j8 (.ext rows more sz)=some (.int .i64 rows.length):=(rfl)
@[simp] theorem lnR(k i len cap:Nat)(ex:Bool)(sz:Nat):j8 (.raw k i len cap ex sz)=some (.int .i64 len):=(rfl)
@[simp] theorem lnS(s:List UInt8):b8t (.str s)=some (.int .i64 s.length):=(rfl)
@[simp] theorem cvI(k k':IntKind)(n:Int):U4 k (.int k' n)=some (.int k (k.wrap n)):=(rfl)
@[simp] theorem cvS(s:List UInt8):b5a (.str s)=some (.str s):=(rfl)
@[simp] theorem unN(b:Bool):unD .not (.bool b)=some (.bool !b):=(rfl)
@[simp] theorem unM(k:IntKind)(n:Int):unD .neg (.int k n)=some (.int k (k.wrap (0 - n))):=(rfl)
@[simp] theorem J8(k:IntKind)(a b:Int):d4 .add (.int k a) (.int k b)=some (.int k (k.wrap (a+b))):=by simp[d4,G7,O5]
@[simp] theorem a7o(k:IntKind)(a b:Int):d4 .sub (.int k a) (.int k b)=some (.int k (k.wrap (a - b))):=by simp[d4,G7,O5]
@[simp] theorem c3F(k:IntKind)(a b:Int):d4 .mul (.int k a) (.int k b)=some (.int k (k.wrap (a*b))):=by simp[d4,G7,O5]
@[simp] theorem a6c(k:IntKind)(a b:Int):d4 .eql (.int k a) (.int k b)=some (.bool (a==b)):=by simp[d4,G7,O5]
@[simp] theorem b1B(k:IntKind)(a b:Int):d4 .neq (.int k a) (.int k b)=some (.bool (a != b)):=by simp[d4,G7,O5]
@[simp] theorem a3K(k:IntKind)(a b:Int):d4 .lss (.int k a) (.int k b)=some (.bool (decide (a<b))):=by simp[d4,G7,O5]
@[simp] theorem c5u(k:IntKind)(a b:Int):d4 .leq (.int k a) (.int k b)=some (.bool (decide (a≤b))):=by simp[d4,G7,O5]
@[simp] theorem b0O(k:IntKind)(a b:Int):d4 .gtr (.int k a) (.int k b)=some (.bool (decide (a>b))):=by simp[d4,G7,O5]
@[simp] theorem c0E(k:IntKind)(a b:Int):d4 .geq (.int k a) (.int k b)=some (.bool (decide (a≥b))):=by simp[d4,G7,O5]
@[simp] theorem c6y(k:IntKind)(a b:Int):d4 .and (.int k a) (.int k b)=some (.int k (k.wrap (BitVec.ofInt k.bits a &&& BitVec.ofInt k.bits b).toNat)):=by simp[d4,G7,O5]
@[simp] theorem c5T(k:IntKind)(a b:Int):d4 .or (.int k a) (.int k b)=some (.int k (k.wrap (BitVec.ofInt k.bits a ||| BitVec.ofInt k.bits b).toNat)):=by simp[d4,G7,O5]
@[simp] theorem c6C(k:IntKind)(a b:Int):d4 .xor (.int k a) (.int k b)=some (.int k (k.wrap (BitVec.ofInt k.bits a ^^^ BitVec.ofInt k.bits b).toNat)):=by simp[d4,G7,O5]
theorem c3z(k k':IntKind)(a:Int)(b:Int)(h:0≤b):d4 .shl (.int k a) (.int k' b)=some (.int k (k.wrap (a*2^(min b.toNat k.bits)))):=by simp only[d4];rw[if_neg (by omega)]
@[simp] theorem c6w(a b:List UInt8):c0y .add (.str a) (.str b)=if((a.length+b.length:Nat):Int)≤IntKind.i64.max then some (.str (a++b)) else none:=by
 simp only[c0y,a2j];split<;>rfl
@[simp] theorem c6T(a b:List UInt8):c0y .eql (.str a) (.str b)=some (.bool (a==b)):=(rfl)
@[simp] theorem c6S(a b:List UInt8):c0y .neq (.str a) (.str b)=some (.bool !(a==b)):=(rfl)
@[simp] theorem eqE(b:Bool):b3l .eql (some b)=some (.bool b):=(rfl)
@[simp] theorem eqN(b:Bool):b3l .neq (some b)=some (.bool !b):=(rfl)
@[simp] theorem c6J(a b:Bool):c4w (.bool a) (.bool b)=some (a==b):=(rfl)
@[simp] theorem clB(b:Bool):r5 (.bool b)=some [.bool b]:=(rfl)
@[simp] theorem clI(k:IntKind)(n:Int):r5 (.int k n)=some [.int k n]:=(rfl)
@[simp] theorem clS(s:List UInt8):r5 (.str s)=some [.str s]:=(rfl)
@[simp] theorem clN:r5 .nilSlc=some [.nilSlc]:=(rfl)
@[simp] theorem clP:r5 .nilPtr=some [.nilPtr]:=(rfl)
@[simp] theorem clF:r5 .nilFn=some [.nilFn]:=(rfl)
@[simp] theorem clL(rows:List (List D))(sz:Nat):r5 (.lst rows sz)=some [.lst rows sz]:=(rfl)
@[simp] theorem clE(rows more:List (List D))(sz:Nat):r5 (.ext rows more sz)=some [.ext rows more sz]:=(rfl)
@[simp] theorem clR(k i len cap:Nat)(ex:Bool)(sz:Nat):r5 (.raw k i len cap ex sz)=some [.raw k i len cap ex sz]:=(rfl)
@[simp] theorem clA(cs:List D):r5 (.agg cs)=some cs:=(rfl)
@[simp] theorem c6N(k i:Nat):r5 (.ptr k i)=some [.ptr k i]:=(rfl)
@[simp] theorem c6P(f:Fn)(a b:List D):r5 (.fn f a b)=some [.fn f a b]:=(rfl)
@[simp] theorem c6R(t:TypeId)(v:D):r5 (.ifc t v)=some [.ifc t v]:=(rfl)
@[simp] theorem agS(cs:List D):E2 (some cs)=some (.agg cs):=(rfl)
@[simp] theorem fiN(cs:List D):r8 cs []=some cs:=(rfl)
@[simp] theorem frN(sz:Nat)(rows:List (List D)):A1 sz rows []=some rows:=(rfl)
@[simp] theorem lsE(row:List D)(i:Nat)(S:b5):c9 S (.elt row i)=row[i]? :=(rfl)
@[simp] theorem laE(row:List D)(i n:Nat)(S:b5):s0 S n (.elt row i)=if 0<n∧i+n≤row.length then some (.agg ((row.drop i).take n)) else none:=(rfl)
@[simp] theorem mxD(k:IntKind)(a b:Int):a8i true [.int k a, .int k b]=some (.int k (if b>a then b else a)):=(rfl)
@[simp] theorem mnD(k:IntKind)(a b:Int):a8i false [.int k a, .int k b]=some (.int k (if b<a then b else a)):=(rfl)
theorem b5F{rows:List (List D)}{sz i:Nat}{row:List D}(h:rows[i]? =some row):m9 sz (.lst rows sz) (.int .i64 (i:Int))=some (.elt row 0):=by
 simp only[m9]
 rw[if_pos ⟨by trivial,by omega⟩,Int.toNat_natCast,h]
theorem c6k{rows more:List (List D)}{sz i:Nat}{row:List D}(h:rows[i]? =some row):m9 sz (.ext rows more sz) (.int .i64 (i:Int))=some (.elt row 0):=by
 simp only[m9]
 rw[if_pos ⟨by trivial,by omega⟩,Int.toNat_natCast,h]
theorem c3y{k i len cap sz j:Nat}{ex:Bool}(h:j<len):m9 sz (.raw k i len cap ex sz) (.int .i64 (j:Int))=some (.rel k (i+j) 0 sz):=by
 simp only[m9]
 rw[if_pos ⟨by trivial,by omega,by omega⟩,Int.toNat_natCast]
theorem b5.fresh{S:b5}{j k:Nat}{o:s7}(h:(S.set j o) k=Option.none):k≠j∧S k=Option.none:=by
 unfold b5.set at h
 split at h
 ·cases h
 ·rename_i e;exact⟨e,h⟩
theorem b4B{S:b5}{k i sz:Nat}{cs:List D}{acs:List AV}(h:S k=some ⟨sz,[cs],acs⟩):a9T S (.ptr k i)=some (cs,i):=by
 simp only[a9T,h]
theorem c0i{S:b5}{k r i sz:Nat}{rows:List (List D)}{row:List D}{acs:List AV}(h:S k=some ⟨sz,rows,acs⟩)(hr:rows[r]? =some row):a9T S (.rel k r i sz)=some (row,i):=by
 simp only[a9T,h,hr];rfl
theorem ldP{S:b5}{k i sz:Nat}{cs:List D}{acs:List AV}(h:S k=some ⟨sz,[cs],acs⟩):c9 S (.ptr k i)=cs[i]? :=by simp only[c9,b4B h]
theorem laP{S:b5}{k i n sz:Nat}{cs:List D}{acs:List AV}(h:S k=some ⟨sz,[cs],acs⟩)(hn:0<n∧i+n≤cs.length):s0 S n (.ptr k i)=some (.agg ((cs.drop i).take n)):=by
 simp only[s0,b4B h];rw[if_pos hn]
theorem ldR{S:b5}{k r i sz:Nat}{rows:List (List D)}{row:List D}{acs:List AV}(h:S k=some ⟨sz,rows,acs⟩)(hr:rows[r]? =some row):c9 S (.rel k r i sz)=row[i]? :=by simp only[c9,c0i h hr]
theorem stP{S:b5}{k i n sz:Nat}{cs ds:List D}{acs:List AV}{v:D}{K:D→b5→Prop}(h:S k=some ⟨sz,[cs],acs⟩)(hv:r5 v=some ds)(hn:ds.length=n∧0<n∧i+n≤cs.length)
  (hK:∀acs,K b6 (S.set k ⟨sz,[n8 cs i ds],acs⟩)):j1 S n (.ptr k i) v K:=by
 simp only[j1,hv,h]
 rw[if_pos ⟨hn.1,hn.2.1⟩,if_pos hn.2.2]
 exact hK
theorem stR{S:b5}{k r i n sz:Nat}{rows:List (List D)}{row ds:List D}{acs:List AV}{v:D}{K:D→b5→Prop}(h:S k=some ⟨sz,rows,acs⟩)(hr:rows[r]? =some row)(hv:r5 v=some ds)(hn:ds.length=n∧0<n∧i+n≤row.length)
  (hK:∀acs,K b6 (S.set k ⟨sz,rows.set r (n8 row i ds),acs⟩)):j1 S n (.rel k r i sz) v K:=by
 simp only[j1,hv,h,hr]
 rw[if_pos ⟨hn.1,hn.2.1⟩,if_pos (by trivial),if_pos hn.2.2]
 exact hK
theorem b5.set_in(S:b5){k l:Nat}(h:k≠l)(a b c:s7):((S.set k a).set l b).set k c=(S.set k c).set l b:=by
 rw[b5.set_comm S h,b5.set_set,b5.set_comm S h]
theorem b5.le_new{S:b5}{k:Nat}{o:s7}(h:S k=Option.none):S.le (S.set k o):=b5.le_set (b5.le_refl S) h
def U6(l:List D):List (List D):=l.map fun d=>[d]
@[simp] theorem c3C(l:List D):(U6 l).length=l.length:=List.length_map _
theorem b6o{l:List D}{i:Nat}{d:D}(h:l[i]? =some d):(U6 l)[i]? =some [d]:=by simp only[U6,List.getElem?_map,h];rfl
def Grw(S0:b5)(t:D)(rows:List (List D))(sz:Nat)(S:b5):Prop:=
 (t= .nilSlc∧rows=[]∧S=S0)∨∃k acs,S0 k=Option.none∧t= .raw k 0 rows.length rows.length false sz∧S=S0.set k ⟨sz,rows,acs⟩
theorem Grw.nil(S:b5)(sz:Nat):Grw S .nilSlc [] sz S:= .inl ⟨rfl,rfl,rfl⟩
theorem Grw.le{S0 S:b5}{t:D}{rows:List (List D)}{sz:Nat}(h:Grw S0 t rows sz S):S0.le S:=by
 rcases h with ⟨_,_,rfl⟩|⟨k,acs,h,_,rfl⟩
 ·exact b5.le_refl _
 ·exact b5.le_new h
theorem Grw.len{S0 S:b5}{t:D}{rows:List (List D)}{sz:Nat}(h:Grw S0 t rows sz S):j8 t=some (.int .i64 rows.length):=by
 rcases h with ⟨rfl,rfl,rfl⟩|⟨k,acs,h,rfl,rfl⟩<;>rfl
theorem Grw.push{S0 S:b5}{t:D}{rows:List (List D)}{sz bytes:Nat}(h:Grw S0 t rows sz S){v:D}{news:List (List D)}(hv:rowsS S sz v=some news)(hb:0<bytes∧(2*(rows.length+news.length)+768)*bytes≤2^47){K:D→b5→Prop}
  (hK:∀t' S',Grw S0 t' (rows++news) sz S'→K t' S'):s9 S sz bytes t v K:=by
 simp only[s9,hv]
 rcases h with ⟨rfl,rfl,rfl⟩|⟨k,acs,h,rfl,rfl⟩
 ·simp only[U9]
  by_cases hn:news=[]
  ·rw[if_pos hn]
   exact hK _ _ (.inl ⟨rfl,by rw[hn];rfl,rfl⟩)
  ·rw[if_neg hn]
   refine⟨⟨hb.1,by simpa using hb.2⟩, .inr fun k acs hk=>hK _ _ (.inr ⟨k,acs,hk, ?_, ?_⟩)⟩<;>simp
 ·simp only[U9]
  by_cases hn:news=[]
  ·rw[if_pos hn]
   refine hK _ _ (.inr ⟨k,acs,h, ?_, ?_⟩)<;>simp[hn]
  ·rw[if_neg hn,b5.set_same]
   simp only
   rw[if_pos ⟨by trivial,by trivial,by omega⟩]
   refine⟨hb, .inr fun k' acs' hk'=> ?_⟩
   rw[b5.erase_set _ _ _ h]at hk' ⊢
   refine hK _ _ (.inr ⟨k',acs',hk', ?_, ?_⟩)<;>simp
theorem Grw.swap{S0 S1 S:b5}{t u:D}{r q:List (List D)}{s z:Nat}(h:Grw S0 t r s S1)(h':Grw S1 u q z S):∃S2,Grw S0 u q z S2∧Grw S2 t r s S:=by
 rcases h with ⟨rfl,rfl,rfl⟩|⟨k,acs,hk,rfl,rfl⟩
 ·exact⟨S,h', .inl ⟨rfl,rfl,rfl⟩⟩
 ·rcases h' with ⟨rfl,rfl,rfl⟩|⟨l,bcs,hl,rfl,rfl⟩
  ·exact⟨S0, .inl ⟨rfl,rfl,rfl⟩, .inr ⟨k,acs,hk,rfl,rfl⟩⟩
  ·obtain⟨hne,hl0⟩:=b5.fresh hl
   refine⟨S0.set l ⟨z,q,bcs⟩, .inr ⟨l,bcs,hl0,rfl,rfl⟩, .inr ⟨k,acs, ?_,rfl, ?_⟩⟩
   ·rw[b5.set_ne _ _ _ (Ne.symm hne)];exact hk
   ·exact b5.set_comm _ (Ne.symm hne) _ _
theorem Grw.fin{S0 S:b5}{t:D}{rows:List (List D)}{sz:Nat}(h:Grw S0 t rows sz S){Q:D→b5→Prop}(hq:b8 E Q (.lst rows sz) S0):b8 E Q t S:=by
 rcases h with ⟨rfl,rfl,rfl⟩|⟨k,acs,h,rfl,rfl⟩
 ·exact b8.nil hq
 ·refine b8.freeze (b5.set_same _ _ _) rfl (by simp) (Nat.le_refl _) ?_
  rw[b5.erase_set _ _ _ h]
  simpa using hq
theorem Grw.finT{S0 S:b5}{t:D}{rows:List (List D)}{sz:Nat}(h:Grw S0 t rows sz S){Q:D→b5→Prop}{lp lq:List D}(hq:b8 E Q (.tup (lp++ .lst rows sz::lq)) S0):b8 E Q (.tup (lp++t::lq)) S:=by
 rcases h with ⟨rfl,rfl,rfl⟩|⟨k,acs,h,rfl,rfl⟩
 ·exact b8.nilT hq
 ·refine b8.freezeT (b5.set_same _ _ _) rfl (by simp) (Nat.le_refl _) ?_
  rw[b5.erase_set _ _ _ h]
  simpa using hq
theorem Grw.under{S0 S:b5}{t:D}{rows:List (List D)}{sz:Nat}(h:Grw S0 t rows sz S){k:Nat}{o:s7}(hk:S k=Option.none):Grw (S0.set k o) t rows sz (S.set k o):=by
 rcases h with ⟨rfl,rfl,rfl⟩|⟨l,acs,h,rfl,rfl⟩
 ·exact .inl ⟨rfl,rfl,rfl⟩
 ·obtain⟨hne,hk0⟩:=b5.fresh hk
  refine .inr ⟨l,acs, ?_,rfl,b5.set_comm _ (Ne.symm hne) _ _⟩
  rw[b5.set_ne _ _ _ (Ne.symm hne)];exact h
theorem Grw.drop{S0 S:b5}{t:D}{rows:List (List D)}{sz k:Nat}{o:s7}(h:Grw (S0.set k o) t rows sz S)(hk:S0 k=Option.none):∃S',S'.le S∧Grw S0 t rows sz S':=by
 rcases h with ⟨rfl,rfl,rfl⟩|⟨l,acs,h,rfl,rfl⟩
 ·exact⟨S0,b5.le_new hk, .inl ⟨rfl,rfl,rfl⟩⟩
 ·obtain⟨hne,hl0⟩:=b5.fresh h
  refine⟨S0.set l ⟨sz,rows,acs⟩, ?_, .inr ⟨l,acs,hl0,rfl,rfl⟩⟩
  rw[b5.set_comm _ (Ne.symm hne)]
  refine b5.le_new ?_
  rw[b5.set_ne _ _ _ (Ne.symm hne)];exact hk
theorem Grw.base{S0 S1 S:b5}{t:D}{rows:List (List D)}{sz:Nat}(h:Grw S1 t rows sz S)(hle:S0.le S1):∃S',S'.le S∧Grw S0 t rows sz S':=by
 rcases h with ⟨rfl,rfl,rfl⟩|⟨l,acs,h,rfl,rfl⟩
 ·exact⟨S0,hle, .inl ⟨rfl,rfl,rfl⟩⟩
 ·have hl:S0 l=Option.none:=by
   cases e:S0 l with
   |none=>rfl
   |some o=>rw[hle _ _ e]at h;cases h
  refine⟨S0.set l ⟨sz,rows,acs⟩,fun j o e=> ?_, .inr ⟨l,acs,hl,rfl,rfl⟩⟩
  unfold b5.set at e ⊢
  split at e
  ·rename_i hj;rw[if_pos hj];exact e
  ·rename_i hj;rw[if_neg hj];exact hle _ _ e
theorem V4{S:b5}{sz:Nat}{rows:List (List D)}{len:Nat}{K:D→b5→Prop}(hl:rows.length=len)(h:K (.lst rows sz) S):M2 S sz (some rows) len K:=by
 simp only[M2,oD]
 refine .inl ?_
 rw[List.take_of_length_le (by omega)]
 exact h
theorem c2X{S:b5}{sz:Nat}{rows:List (List D)}{len:Nat}{K:D→b5→Prop}(h:∀k acs,S k=Option.none→K (.raw k 0 len len true sz) (S.set k ⟨sz,rows,acs⟩)):M2 S sz (some rows) len K:=by
 simp only[M2,oD]
 exact .inr h
theorem fwP(k i:Nat)(S S':b5):B1 (.ptr k i) S S'=(S' k=S k):=(rfl)
theorem fwR(x:D)(S:b5):B1 x S S:=by
 unfold B1
 split<;>trivial
end
end Go.Am
end
section
namespace Go.Op
open Go.Am
def Y2(w:Int):Int:=if w=1 then -128 else if w=2 then -2147483648 else if w=3 then -9223372036854775808 else 1
def Y6(w:Int):Int:=if w=1 then 127 else if w=2 then 2147483647 else if w=3 then 9223372036854775807 else 0
def I64(n:Int):Prop:= -9223372036854775808≤n∧n≤9223372036854775807
def b6z(w:Int):Int:=if w=1 then 8 else if w=2 then 32 else if w=3 then 64 else 0
def b4i(w n:Int):Int:=if w=1 then IntKind.i64.wrap (IntKind.i8.wrap n) else if w=2 then IntKind.i64.wrap (IntKind.i32.wrap n) else if w=3 then n else 0
theorem c2u(n:Int):IntKind.u64.wrap n=n % 18446744073709551616:=by
 simp only[IntKind.wrap,IntKind.bits,IntKind.signed];simp
def a6M(n:Int)(i:Nat):Int:=(n / 2^(8*i)) % 256
def J3(n:Int)(size:Nat):List Int:=(List.range size).map (a6M n)
theorem l9(n:Int)(s:Nat):(J3 n s).length=s:=by simp[J3]
structure Fld where
 size:Nat
 lo:Int
 hi:Int
 deriving DecidableEq
def fIx:Fld:=⟨2,0,65535⟩
def B8:Fld:=⟨4,0,4294967295⟩
def a6J:Fld:=⟨1,1,3⟩
def c0v(b:Bool)(op:Int):Option (List Fld):=
 if b then some [B8]else if op=52 then some [⟨1,0,255⟩]else if op=49 then some [a6J]
 else if 11≤op∧op≤28 then some [a6J]else if 1≤op∧op≤52 then some []else none
def c0G(b:Bool)(op:Int):Option (List Fld):=
 if b then some [⟨1,1,5⟩]else if op=29 then some [a6J,a6J]else c0v (op==46||op==47||op==48) op
def c0f(b:Bool)(op:Int):Option (List Fld):=if b then some [fIx,fIx]else c0G (op==23||op==24) op
def b8d(b:Bool)(op:Int):Option (List Fld):=if b then some [fIx]else c0f (op==37||op==38) op
def lay(op:Int):Option (List Fld):=
 if op=1 then some [⟨1,Y2 1,Y6 1⟩]else if op=2 then some [⟨4,Y2 2,Y6 2⟩]else if op=3 then some [⟨8,Y2 3,Y6 3⟩]
 else b8d (op==6||op==7||op==8||op==50||op==36||op==39||op==40||op==41||op==42||op==43||op==44||op==45) op
structure In where
 op:Int
 a:Int
 b:Int
 arms:List (Int×Int)
structure In.Ok (x:In):Prop where
 op:0≤x.op∧x.op≤255
 a:I64 x.a
 b:I64 x.b
 arms:∀y∈x.arms,I64 y.1∧I64 y.2
 short:x.arms.length<2^44
def Fld.may(f:Fld)(n:Int):Bool:=decide (f.lo≤n∧n≤f.hi)
def In.num(x:In)(i:Nat):Int:=if i=1 then x.b else x.a
def Y1(x:In):Nat→List Fld→List Int
 |_,[]=>[]
 |i,f::l=>J3 (x.num i) f.size++Y1 x (i+1) l
def a7w(x:In):Nat→List Fld→Bool
 |_,[]=>true
 |i,f::l=>f.may (x.num i)&&a7w x (i+1) l
def c2J(y:Int×Int):List Int:=J3 y.1 8++J3 y.2 4
def b4s(w:Int)(y:Int×Int):Bool:=decide (Y2 w≤y.1∧y.1≤Y6 w)&&decide (0≤y.2∧y.2≤4294967295)
def isS(x:In):Bool:=
 (lay x.op).isSome&&a7w x 0 ((lay x.op).getD [])&&
  if x.op=49 then decide (x.arms.length≤65535)&&x.arms.all (b4s (IntKind.u8.wrap x.a))&&decide (0≤x.b∧x.b≤4294967295)
  else decide (x.arms.length=0)&&(decide (2≤((lay x.op).getD []).length)||decide (x.b=0))&&(decide (1≤((lay x.op).getD []).length)||decide (x.a=0))
def a0C(arms:List (Int×Int)):List Int:=arms.flatMap c2J
def Z6(x:In):List Int:=x.op::Y1 x 0 ((lay x.op).getD [])++if x.op=49 then J3 x.arms.length 2++a0C x.arms++J3 x.b 4 else[]
def a7L(l:Option (List Fld)):Bool:=(l.getD []).all (fun f=>decide (1≤f.size∧f.size≤8))&&decide ((l.getD []).length≤2)
theorem c1t{c:Prop}[Decidable c]{a b:Option (List Fld)}(ha:a7L a=true)(hb:a7L b=true):a7L (if c then a else b)=true:=by
 by_cases h:c
 ·rw[if_pos h];exact ha
 ·rw[if_neg h];exact hb
theorem c2b(op:Int):a7L (lay op)=true:=by
 unfold lay b8d c0f c0G c0v
 repeat' apply c1t
 all_goals rfl
theorem a7h{op:Int}:((lay op).getD []).length≤2:=by
 have h:=c2b op
 simp only[a7L,Bool.and_eq_true,List.all_eq_true,decide_eq_true_eq]at h
 exact h.2
theorem X2:∀l:List (Int×Int),(a0C l).length=12*l.length
 | []=>rfl
 |y::l=>by
  have:=X2 l
  simp only[a0C,List.flatMap_cons,List.length_append,c2J,l9,List.length_cons]at this ⊢
  omega
def leN:List Int→Nat
 | []=>0
 |b::l=>b.toNat+256*leN l
def J5(b:Int):Prop:=0≤b∧b≤255
theorem c0F(n:Int)(s:Nat):J3 n (s+1)=a6M n 0::J3 (n / 256) s:=by
 unfold J3
 rw[List.range_succ_eq_map,List.map_cons,List.map_map]
 congr 1
 refine List.map_congr_left fun i _=> ?_
 simp only[Function.comp,a6M]
 rw[show 8*(i+1)=8+8*i by omega,Int.pow_add, ←Int.ediv_ediv_of_nonneg (by decide)]
 rfl
theorem c2g(n:Int)(s:Nat):∀b∈J3 n s,J5 b:=by
 intro b hb
 obtain⟨i,_,rfl⟩:=List.mem_map.1 hb
 unfold a6M J5
 omega
theorem b5y:∀(s:Nat) (n:Int),(leN (J3 n s):Int)=n % 2^(8*s)
 |0,n=>by simp[J3,leN,Int.emod_one]
 |s+1,n=>by
  have ih:=b5y s (n / 256)
  rw[c0F,leN]
  have hM:(0:Int)<2^(8*s):=Int.pow_pos (by decide)
  have hp:(2:Int)^(8*(s+1))=256*2^(8*s):=by rw[show 8*(s+1)=8+8*s by omega,Int.pow_add];rfl
  have hb:((a6M n 0).toNat:Int)=n % 256:=by
   have:a6M n 0=n % 256:=by simp[a6M]
   rw[this];omega
  rw[Int.natCast_add,Int.natCast_mul,ih,hb,hp]
  have h1:=Int.emod_nonneg (n / 256) (show(2:Int)^(8*s)≠0 by omega)
  have h2:=Int.emod_lt_of_pos (n / 256) hM
  have h3:=Int.mul_ediv_add_emod (n / 256) (2^(8*s))
  have h4:=Int.mul_ediv_add_emod n 256
  refine((Int.ediv_emod_unique (a:=n) (b:=256*2^(8*s)) (q:=n / 256 / 2^(8*s)) (by omega)).2 ⟨?_,by omega, ?_⟩).2.symm
  ·have:256*2^(8*s)*(n / 256 / 2^(8*s))=256*(2^(8*s)*(n / 256 / 2^(8*s))):=by rw[Int.mul_assoc]
   rw[this]
   omega
  ·omega
theorem b9N:∀ {l m:List Int},(∀b∈l,J5 b)→(∀b∈m,J5 b)→l.length=m.length→leN l=leN m→l=m
 | [],[],_,_,_,_=>rfl
 | [],b::m,_,_,h,_=>by simp at h
 |a::l,[],_,_,h,_=>by simp at h
 |a::l,b::m,hl,hm,h,e=>by
  obtain⟨a0,a1⟩:=hl a (by simp)
  obtain⟨b0,b1⟩:=hm b (by simp)
  simp only[leN]at e
  have hab:a=b:=by omega
  have hlm:leN l=leN m:=by omega
  rw[hab,b9N (fun x hx=>hl x (by simp[hx])) (fun x hx=>hm x (by simp[hx])) (by simpa using h) hlm]
theorem b1k:∀ {l:List Int},(∀b∈l,J5 b)→leN l<2^(8*l.length)
 | [],_=>by simp[leN]
 |a::l,h=>by
  obtain⟨a0,a1⟩:=h a (by simp)
  have ih:=b1k (fun x hx=>h x (by simp[hx]):∀b∈l,J5 b)
  have hp:2^(8*(l.length+1))=256*2^(8*l.length):=by rw[show 8*(l.length+1)=8+8*l.length by omega,Nat.pow_add]
  rw[leN,List.length_cons,hp]
  omega
def a2h(f:Fld):Prop:=1≤f.size∧((f.size≤7∧0≤f.lo∧f.hi<2^(8*f.size))∨(f.size≤7∧ -(2^(8*f.size - 1))≤f.lo∧f.hi<2^(8*f.size - 1))∨(f.size=8∧ -9223372036854775808≤f.lo∧f.hi≤9223372036854775807))
def rdN(f:Fld)(u:Nat):Option Int:=
 let n:=IntKind.i64.wrap (u:Int)
 let n':=if f.may n=false∧f.size<8 then n - 2^(8*f.size) else n
 if f.may n'=true then some n' else none
theorem c2E(z:Int):IntKind.i64.wrap z % 18446744073709551616=z % 18446744073709551616:=by
 simp only[IntKind.wrap,IntKind.bits,IntKind.signed];simp
 split<;>omega
theorem c3c{f:Fld}{u:Nat}{n:Int}(h:rdN f u=some n)(h8:f.size≤8):f.may n=true∧n % 2^(8*f.size)=(u:Int) % 2^(8*f.size):=by
 unfold rdN at h
 simp only at h
 obtain⟨n',hn'⟩:∃n',n'=if f.may (IntKind.i64.wrap (u:Int))=false∧f.size<8 then IntKind.i64.wrap (u:Int) - 2^(8*f.size) else IntKind.i64.wrap (u:Int):=⟨_,rfl⟩
 rw[←hn']at h
 have hw:IntKind.i64.wrap (u:Int) % 2^(8*f.size)=(u:Int) % 2^(8*f.size):=by
  have hd:((2:Int)^(8*f.size)) ∣ 18446744073709551616:=by
   refine⟨2^(64 - 8*f.size), ?_⟩
   rw[←Int.pow_add,show 8*f.size+(64 - 8*f.size)=64 by omega]
   rfl
  rw[←Int.emod_emod_of_dvd _ hd,c2E,Int.emod_emod_of_dvd _ hd]
 split at h
 ·rename_i hm
  cases h
  refine⟨hm, ?_⟩
  rw[hn']
  split
  ·rw[Int.sub_emod_right];exact hw
  ·exact hw
 ·cases h
theorem c3v{f:Fld}(hf:a2h f){n:Int}(hm:f.may n=true):rdN f (n % 2^(8*f.size)).toNat=some n:=by
 obtain⟨h1,hf⟩:=hf
 have hm':f.lo≤n∧n≤f.hi:=by simpa [Fld.may]using hm
 have hM:(0:Int)<2^(8*f.size):=Int.pow_pos (by decide)
 obtain⟨M,hMe⟩:∃M:Int,M=2^(8*f.size):=⟨_,rfl⟩
 have h0:=Int.emod_nonneg n (show(2:Int)^(8*f.size)≠0 by omega)
 have h2:=Int.emod_lt_of_pos n hM
 have hu:(((n % 2^(8*f.size)).toNat:Nat):Int)=n % 2^(8*f.size):=by omega
 unfold rdN
 simp only[hu]
 rcases hf with ⟨h7,hlo,hhi⟩|⟨h7,hlo,hhi⟩|⟨h8,hlo,hhi⟩
 ·have hle:(2:Int)^(8*f.size)≤2^56:=by
   have:2^(8*f.size)≤2^56:=Nat.pow_le_pow_right (by decide) (by omega)
   exact_mod_cast this
  have hn:n % 2^(8*f.size)=n:=Int.emod_eq_of_lt (by omega) (by omega)
  rw[hn,g9 (by omega) (by omega)]
  simp[hm]
 ·have hle:(2:Int)^(8*f.size)≤2^56:=by
   have:2^(8*f.size)≤2^56:=Nat.pow_le_pow_right (by decide) (by omega)
   exact_mod_cast this
  have hh:(2:Int)^(8*f.size)=2*2^(8*f.size - 1):=by
   rw[show 8*f.size=1+(8*f.size - 1) by omega,Int.pow_add,show 1+(8*f.size - 1) - 1=8*f.size - 1 by omega]
   rfl
  have hp:(0:Int)<2^(8*f.size - 1):=Int.pow_pos (by decide)
  by_cases hn:0≤n
  ·have hn:n % 2^(8*f.size)=n:=Int.emod_eq_of_lt hn (by omega)
   rw[hn,g9 (by omega) (by omega)]
   simp[hm]
  ·have hn:n % 2^(8*f.size)=n+2^(8*f.size):=by
    rw[←Int.add_emod_right]
    exact Int.emod_eq_of_lt (by omega) (by omega)
   rw[hn,g9 (by omega) (by omega)]
   have hno:f.may (n+2^(8*f.size))=false:=by
    unfold Fld.may
    exact decide_eq_false (by omega)
   have hc:f.may (n+2^(8*f.size))=false∧f.size<8:=⟨hno,by omega⟩
   rw[if_pos hc,show n+2^(8*f.size) - 2^(8*f.size)=n by omega,if_pos hm]
 ·have hs:(2:Int)^(8*f.size)=18446744073709551616:=by rw[h8];rfl
  have iw:∀z:Int,IntKind.i64.wrap z=if 9223372036854775808≤z % 18446744073709551616 then z % 18446744073709551616 - 18446744073709551616 else z % 18446744073709551616:=by
   intro z
   simp only[IntKind.wrap,IntKind.bits,IntKind.signed];simp
  have hn:IntKind.i64.wrap (n % 18446744073709551616)=n:=by
   rw[iw];split<;>omega
  rw[hs,hn,h8]
  simp[hm]
def B0(bs:List Int)(f:Fld)(s:Nat×Int):Int×Nat×Int:=
 if s.2≠0 then(0,s.1,s.2) else if bs.length<s.1+f.size then(0,s.1,10) else
 match rdN f (leN ((bs.drop s.1).take f.size)) with
 |some n=>(n,s.1+f.size,0)
 |none=>(0,s.1,120)
theorem c2K{pre post:List Int}{f:Fld}(hf:a2h f){n:Int}(hm:f.may n=true):B0 (pre++J3 n f.size++post) f (pre.length,0)=(n,pre.length+f.size,0):=by
 unfold B0
 have hlen:=l9 n f.size
 rw[if_neg (by simp),if_neg (by simp only[List.length_append,hlen];omega)]
 have hd:(((pre++J3 n f.size++post).drop pre.length).take f.size)=J3 n f.size:=by
  rw[List.append_assoc,List.drop_left]
  exact List.take_left' hlen
 have hu:leN (J3 n f.size)=(n % 2^(8*f.size)).toNat:=by
  have:=b5y f.size n
  omega
 simp only
 rw[hd,hu,c3v hf hm]
theorem b9X{bs:List Int}{f:Fld}{s:Nat×Int}(h:s.2≠0):B0 bs f s=(0,s):=by
 unfold B0
 rw[if_pos h]
theorem c4d{bs:List Int}(hb:∀b∈bs,J5 b){f:Fld}(h8:f.size≤8){at_:Nat}{n:Int}{at':Nat}(h:B0 bs f (at_,0)=(n,at',0)):f.may n=true∧at'=at_+f.size∧at'≤bs.length∧(bs.drop at_).take f.size=J3 n f.size:=by
 unfold B0 at h
 rw[if_neg (by simp)]at h
 split at h
 ·cases h
 rename_i hlen
 simp only at h hlen
 split at h
 ·rename_i m hm
  cases h
  obtain⟨g1,g2⟩:=c3c hm h8
  have hbs:∀b∈(bs.drop at_).take f.size,J5 b:=fun b hb'=>hb b (List.mem_of_mem_drop (List.mem_of_mem_take hb'))
  have hl:((bs.drop at_).take f.size).length=f.size:=by rw[List.length_take,List.length_drop];omega
  refine⟨g1,rfl,by omega,b9N hbs (c2g _ _) (by rw[hl,l9]) ?_⟩
  have e1:=b5y f.size n
  have e2:=b1k hbs
  rw[hl]at e2
  have e3:((leN ((bs.drop at_).take f.size):Nat):Int)<2^(8*f.size):=by exact_mod_cast e2
  rw[g2,Int.emod_eq_of_lt (by omega) e3]at e1
  omega
 ·cases h
def vF(w:Int):Fld:=⟨8,Y2 w,Y6 w⟩
def D1(bs:List Int)(w:Int):Nat→Nat×Int→List (Int×Int)→List (Int×Int)×(Nat×Int)
 |0,s,acc=>(acc,s)
 |n+1,s,acc=>if s.2≠0 then(acc,s) else
  D1 bs w n (B0 bs B8 (B0 bs (vF w) s).2).2 (acc++[((B0 bs (vF w) s).1,(B0 bs B8 (B0 bs (vF w) s).2).1)])
def D9(bs:List Int):List Fld→Nat×Int→Int×Int×(Nat×Int)
 | [],s=>(0,0,s)
 | [f],s=>((B0 bs f s).1,0,(B0 bs f s).2)
 |f::g::_,s=>((B0 bs f s).1,(B0 bs g (B0 bs f s).2).1,(B0 bs g (B0 bs f s).2).2)
abbrev Dat:=Int×Int×Int×List (Int×Int)
def a2z(bs:List Int)(op a:Int)(s:Nat×Int):Dat×(Nat×Int):=
 ((op,a,(B0 bs B8 (D1 bs (IntKind.u8.wrap a) (B0 bs fIx s).1.toNat (B0 bs fIx s).2 []).2).1,(D1 bs (IntKind.u8.wrap a) (B0 bs fIx s).1.toNat (B0 bs fIx s).2 []).1),
  (B0 bs B8 (D1 bs (IntKind.u8.wrap a) (B0 bs fIx s).1.toNat (B0 bs fIx s).2 []).2).2)
def a7i(bs:List Int)(at_:Nat):Dat×(Nat×Int):=
 if bs.getD at_ 0=49 then a2z bs 49 (D9 bs ((lay (bs.getD at_ 0)).getD []) (at_+1,0)).1 (D9 bs ((lay (bs.getD at_ 0)).getD []) (at_+1,0)).2.2
 else((bs.getD at_ 0,(D9 bs ((lay (bs.getD at_ 0)).getD []) (at_+1,0)).1,(D9 bs ((lay (bs.getD at_ 0)).getD []) (at_+1,0)).2.1,[]),(D9 bs ((lay (bs.getD at_ 0)).getD []) (at_+1,0)).2.2)
def b8G:Dat:=(0,0,0,[])
def b0r(bs:List Int)(at_:Nat):Dat×(Nat×Int):=
 if lay (bs.getD at_ 0)=none then(b8G,(0,120)) else if(a7i bs at_).2.2≠0 then(b8G,(0,(a7i bs at_).2.2)) else a7i bs at_
def In.dat(x:In):Dat:=(x.op,x.a,x.b,x.arms)
theorem c0o{c:Prop}[Decidable c]{a b:Option (List Fld)}(ha:∀f∈a.getD [],a2h f)(hb:∀f∈b.getD [],a2h f):∀f∈(if c then a else b).getD [],a2h f:=by
 by_cases h:c
 ·rw[if_pos h];exact ha
 ·rw[if_neg h];exact hb
theorem a8M(op:Int):∀f∈(lay op).getD [],a2h f:=by
 unfold lay b8d c0f c0G c0v
 repeat' apply c0o
 all_goals (intro f hf;simp only[Option.getD_some,Option.getD_none,List.mem_cons,List.not_mem_nil,or_false,or_self,false_or,fIx,B8,a6J]at hf)
 all_goals (subst hf)
 all_goals (first|exact⟨by decide, .inl ⟨by decide,by decide,by decide⟩⟩|exact⟨by decide, .inr (.inl ⟨by decide,by decide,by decide⟩)⟩|exact⟨by decide, .inr (.inr ⟨by decide,by decide,by decide⟩)⟩)
theorem a3I:a2h B8:=⟨by decide, .inl ⟨by decide,by decide,by decide⟩⟩
theorem c1l:a2h fIx:=⟨by decide, .inl ⟨by decide,by decide,by decide⟩⟩
theorem b9f(w:Int):a2h (vF w):=by
 refine⟨by show 1≤8;omega, .inr (.inr ⟨rfl, ?_, ?_⟩)⟩
 ·show _≤Y2 w
  unfold Y2
  repeat' split
  all_goals omega
 ·show Y6 w≤_
  unfold Y6
  repeat' split
  all_goals omega
theorem b9n(w:Int)(y:Int×Int):b4s w y=((vF w).may y.1&&B8.may y.2):=rfl
theorem a1M{bs pre post:List Int}{f:Fld}(hf:a2h f){n:Int}(hm:f.may n=true){p:Nat}(hp:pre.length=p)(hb:bs=pre++(J3 n f.size++post)):B0 bs f (p,0)=(n,p+f.size,0):=by
 rw[hb, ←hp, ←List.append_assoc]
 exact c2K hf hm
theorem b2D{bs post:List Int}{w:Int}:∀(arms acc:List (Int×Int)) (pre:List Int) (p:Nat),pre.length=p→arms.all (b4s w)=true→bs=pre++(a0C arms++post)→D1 bs w arms.length (p,0) acc=(acc++arms,(p+12*arms.length,0))
 | [],acc,pre,p,hp,_,hb=>by simp[D1]
 |y::arms,acc,pre,p,hp,hall,hb=>by
  rw[List.all_cons,b9n,Bool.and_eq_true,Bool.and_eq_true]at hall
  have hbb:bs=pre++(J3 y.1 (vF w).size++(J3 y.2 B8.size++(a0C arms++post))):=by
   rw[hb];simp only[a0C,List.flatMap_cons,c2J,List.append_assoc];rfl
  have r1:=a1M (b9f w) hall.1.1 hp hbb
  have r2:=a1M (bs:=bs) (pre:=pre++J3 y.1 (vF w).size) (post:=a0C arms++post) a3I hall.1.2 (p:=p+(vF w).size) (by rw[List.length_append,l9,hp]) (by rw[hbb];simp only[List.append_assoc])
  have ih:=b2D (bs:=bs) (post:=post) (w:=w) arms (acc++[y]) (pre++J3 y.1 (vF w).size++J3 y.2 B8.size) (p+(vF w).size+B8.size) (by rw[List.length_append,List.length_append,l9,l9,hp]) hall.2 (by rw[hbb];simp only[List.append_assoc])
  rw[List.length_cons,D1,if_neg (by simp),r1]
  simp only
  rw[r2]
  simp only
  rw[ih]
  have e:p+(vF w).size+B8.size+12*arms.length=p+12*(arms.length+1):=by show p+8+4+_=_;omega
  rw[e,List.append_assoc]
  rfl
theorem a8Q{x:In}(h:isS x=true):∃l,lay x.op=some l∧a7w x 0 l=true∧(x.op=49→x.arms.length≤65535∧x.arms.all (b4s (IntKind.u8.wrap x.a))=true∧B8.may x.b=true)∧(x.op≠49→x.arms=[]∧(l.length<2→x.b=0)∧(l.length<1→x.a=0)):=by
 unfold isS at h
 cases hl:lay x.op with
 |none=>rw[hl]at h;simp at h
 |some l=>
  rw[hl]at h
  simp only[Option.isSome_some,Bool.true_and,Option.getD_some,Bool.and_eq_true]at h
  refine⟨l,rfl,h.1,fun h49=> ?_,fun h49=> ?_⟩
  ·have h2:=h.2
   rw[if_pos h49]at h2
   simp only[Bool.and_eq_true,decide_eq_true_eq]at h2
   exact⟨h2.1.1,h2.1.2,by unfold Fld.may;exact decide_eq_true h2.2⟩
  ·have h2:=h.2
   rw[if_neg h49]at h2
   simp only[Bool.and_eq_true,Bool.or_eq_true,decide_eq_true_eq]at h2
   exact⟨List.length_eq_zero_iff.1 h2.1.1,fun hn=>h2.1.2.resolve_left (by omega),fun hn=>h2.2.resolve_left (by omega)⟩
theorem b9A{l:List Fld}{op:Int}(h:lay op=some l)(h49:op=49):l=[a6J]:=by
 rw[h49]at h
 have:lay 49=some [a6J]:=rfl
 rw[this]at h
 cases h
 rfl
theorem c3l{x:In}(h:isS x=true)(pre more:List Int):b0r (pre++(Z6 x++more)) pre.length=(x.dat,(pre.length+(Z6 x).length,0)):=by
 obtain⟨l,hl,hfl,hsw,hno⟩:=a8Q h
 have hgood:=a8M x.op
 rw[hl]at hgood
 simp only[Option.getD_some]at hgood
 have hlen2:=a7h (op:=x.op)
 rw[hl]at hlen2
 simp only[Option.getD_some]at hlen2
 obtain⟨tail,htail⟩:∃tail,tail=(if x.op=49 then J3 x.arms.length 2++a0C x.arms++J3 x.b 4 else[]):=⟨_,rfl⟩
 have hE:Z6 x=x.op::(Y1 x 0 l++tail):=by unfold Z6;rw[hl,htail];rfl
 obtain⟨bs,hbs⟩:∃bs,bs=pre++(Z6 x++more):=⟨_,rfl⟩
 rw[←hbs]
 have hb:bs=(pre++[x.op])++(Y1 x 0 l++(tail++more)):=by rw[hbs,hE];simp
 have hop:bs.getD pre.length 0=x.op:=by
  rw[hbs,hE,List.getD_eq_getElem?_getD,List.getElem?_append_right (Nat.le_refl _),Nat.sub_self]
  rfl
 have hpl:(pre++[x.op]).length=pre.length+1:=by simp
 have hflds:D9 bs l (pre.length+1,0)=(x.a,(if x.op=49 then 0 else x.b),(pre.length+1+(Y1 x 0 l).length,0)):=by
  match l,hlen2 with
  | [],_=>
   have h49:x.op≠49:=fun e=>by have:=b9A hl e;cases this
   rw[if_neg h49,(hno h49).2.1 (by simp),(hno h49).2.2 (by simp)]
   rfl
  | [f],_=>
   have hm:f.may x.a=true:=by simpa [a7w,In.num]using hfl
   have hr:=a1M (bs:=bs) (post:=tail++more) (hgood f (by simp)) hm hpl (by rw[hb];simp[Y1,In.num])
   have hb0:(if x.op=49 then 0 else x.b)=0:=by
    by_cases h49:x.op=49
    ·rw[if_pos h49]
    ·rw[if_neg h49];exact(hno h49).2.1 (by simp)
   rw[D9,hr,hb0]
   simp[Y1,l9]
  | [f,g],_=>
   have h49:x.op≠49:=fun e=>by have:=b9A hl e;cases this
   have hm:f.may x.a=true∧g.may x.b=true:=by simpa [a7w,In.num]using hfl
   have hr:=a1M (bs:=bs) (post:=J3 x.b g.size++(tail++more)) (hgood f (by simp)) hm.1 hpl (by rw[hb];simp[Y1,In.num])
   have hr2:=a1M (bs:=bs) (pre:=pre++[x.op]++J3 x.a f.size) (post:=tail++more) (hgood g (by simp)) hm.2 (p:=pre.length+1+f.size) (by rw[List.length_append,hpl,l9]) (by rw[hb];simp[Y1,In.num])
   rw[D9,hr]
   simp only
   rw[hr2,if_neg h49]
   simp[Y1,l9]
   omega
  |_::_::_::_,hh=>exact absurd hh (by simp)
 have hX:a7i bs pre.length=(x.dat,(pre.length+(Z6 x).length,0)):=by
  unfold a7i
  rw[hop,hl,Option.getD_some,hflds]
  by_cases h49:x.op=49
  ·rw[if_pos h49]
   obtain⟨s1,s2,s3⟩:=hsw h49
   simp only
   rw[if_pos h49]at htail
   obtain⟨q,hq⟩:∃q,q=pre.length+1+(Y1 x 0 l).length:=⟨_,rfl⟩
   rw[←hq]
   have hpq:(pre++[x.op]++Y1 x 0 l).length=q:=by rw[List.length_append,hpl,hq]
   have c1:=a1M (bs:=bs) (pre:=pre++[x.op]++Y1 x 0 l) (post:=a0C x.arms++(J3 x.b 4++more)) c1l (n:=(x.arms.length:Int)) (by unfold Fld.may;exact decide_eq_true ⟨by show(0:Int)≤_;omega,by show _≤(65535:Int);omega⟩) hpq (by rw[hb,htail];simp only[List.append_assoc];rfl)
   have hp2:(pre++[x.op]++Y1 x 0 l++J3 x.arms.length 2).length=q+fIx.size:=by rw[List.length_append,hpq,l9];rfl
   have c2:=b2D (bs:=bs) (post:=J3 x.b 4++more) x.arms [] (pre++[x.op]++Y1 x 0 l++J3 x.arms.length 2) (q+fIx.size) hp2 s2 (by rw[hb,htail];simp only[List.append_assoc])
   have hp3:(pre++[x.op]++Y1 x 0 l++J3 x.arms.length 2++a0C x.arms).length=q+fIx.size+12*x.arms.length:=by rw[List.length_append,hp2,X2]
   have c3:=a1M (bs:=bs) (post:=more) a3I s3 hp3 (by rw[hb,htail];simp only[List.append_assoc];rfl)
   unfold a2z
   rw[c1]
   simp only[Int.toNat_natCast]
   rw[c2]
   simp only
   rw[c3]
   refine Prod.ext ?_ (Prod.ext ?_ rfl)
   ·show(49,x.a,x.b,[]++x.arms)=x.dat
    rw[In.dat,h49,List.nil_append]
   ·show q+2+12*x.arms.length+4=_
    rw[hE,htail,hq]
    simp only[List.length_cons,List.length_append,l9,X2]
    omega
  ·rw[if_neg h49]
   simp only[if_neg h49]at htail ⊢
   refine Prod.ext ?_ (Prod.ext ?_ rfl)
   ·show(x.op,x.a,x.b,[])=x.dat
    rw[In.dat,(hno h49).1]
   ·show pre.length+1+(Y1 x 0 l).length=_
    rw[hE,htail]
    simp only[List.length_cons,List.append_nil]
    omega
 unfold b0r
 rw[hop,hl,hX,if_neg (by simp),if_neg (by simp)]
theorem b6i:∀(l:List Int) (b:Int),leN (l++[b])=leN l+b.toNat*2^(8*l.length)
 | [],b=>by simp[leN]
 |a::l,b=>by
  have hp:2^(8*(l.length+1))=256*2^(8*l.length):=by rw[show 8*(l.length+1)=8+8*l.length by omega,Nat.pow_add]
  rw[List.cons_append,leN,leN,b6i l b,List.length_cons,hp,Nat.mul_add, ←Nat.add_assoc]
  congr 1
  rw[Nat.mul_left_comm]
theorem b4X{bs:List Int}{f:Fld}{s:Nat×Int}(h:s.1≤bs.length):(B0 bs f s).2.1≤bs.length:=by
 unfold B0
 split
 ·exact h
 split
 ·exact h
 ·split
  ·simp only;omega
  ·exact h
theorem b7x(u:Int):I64 (IntKind.i64.wrap u):=by
 unfold I64
 simp only[IntKind.wrap,IntKind.bits,IntKind.signed];simp
 split<;>omega
def b1H(bs:List Int):Nat→Int→Int→Nat×Int→List Fld→Int×Int×(Nat×Int)
 |_,a,b,s,[]=>(a,b,s)
 |i,a,b,s,f::l=>b1H bs (i+1) (if i=0 then(B0 bs f s).1 else a) (if i=0 then b else(B0 bs f s).1) (B0 bs f s).2 l
theorem c2f{bs:List Int}{s:Nat×Int}:∀ {l:List Fld},l.length≤2→b1H bs 0 0 0 s l=D9 bs l s
 | [],_=>rfl
 | [f],_=>rfl
 | [f,g],_=>rfl
 |_::_::_::_,h=>by simp at h
def y9(bs:List Int)(n:Int):Dat×(Nat×Int):=if n<0∨n≥bs.length then(b8G,(0,2)) else b0r bs n.toNat
section
variable{bs es:List Int}{i:Nat}{f:Fld}{s sb sE:Nat×Int}
theorem c0I(h:(B0 bs f s).2.2=0):s.2=0:=by
 by_cases hs:s.2=0
 ·exact hs
 ·rw[b9X hs]at h;exact h
theorem b1p{w:Int}{n:Nat}{acc:List (Int×Int)}(h:s.2≠0):D1 bs w n s acc=(acc,s):=by
 cases n with
 |zero=>rfl
 |succ n=>rw[D1,if_pos h]
theorem a3P{w:Int}{n:Nat}{acc:List (Int×Int)}(h:(D1 bs w n s acc).2.2=0):s.2=0:=by
 by_cases hs:s.2=0
 ·exact hs
 ·rw[b1p hs]at h;exact h
end
theorem b0T(x:In):1≤(Z6 x).length:=by unfold Z6;simp
section
variable{bs l m:List Int}{f:Fld}{s:Nat×Int}{p:Nat}
def Seg(bs:List Int)(p:Nat)(l:List Int):Prop:=p+l.length≤bs.length∧(bs.drop p).take l.length=l
theorem Seg.append(h:Seg bs p l)(g:Seg bs (p+l.length) m):Seg bs p (l++m):=by
 obtain⟨h1,h2⟩:=h
 obtain⟨g1,g2⟩:=g
 refine⟨by rw[List.length_append];omega, ?_⟩
 rw[List.length_append,List.take_add,h2,List.drop_drop,g2]
theorem Seg.nil(h:p≤bs.length):Seg bs p []:=⟨by simpa using h,rfl⟩
theorem a6F(hb:∀b∈bs,J5 b)(h8:f.size≤8)(h:(B0 bs f s).2.2=0):s.2=0∧f.may (B0 bs f s).1=true∧(B0 bs f s).2.1=s.1+f.size∧Seg bs s.1 (J3 (B0 bs f s).1 f.size):=by
 have h0:=c0I h
 obtain⟨p,e⟩:=s
 simp only at h0
 subst h0
 obtain⟨n,q,e,hr⟩:∃n q e,B0 bs f (p,0)=(n,q,e):=⟨_,_,_,rfl⟩
 rw[hr]at h ⊢
 simp only at h
 subst h
 obtain⟨a1,a2,a3,a4⟩:=c4d hb h8 hr
 exact⟨rfl,a1,a2,by rw[l9];simp only;omega,by rw[l9];exact a4⟩
theorem c3g(h:s.1≤bs.length):(B0 bs f s).2.1≤bs.length:=by
 unfold B0
 split
 ·exact h
 split
 ·exact h
 ·split
  ·simp only;omega
  ·exact h
theorem a3u(h:a2h f):f.size≤8:=by
 obtain⟨_,h|h|h⟩:=h<;>omega
theorem a5T{n:Int}(h:a2h f)(hm:f.may n=true):I64 n:=by
 have hm:=of_decide_eq_true hm
 obtain⟨h1,⟨h7,hlo,hhi⟩|⟨h7,hlo,hhi⟩|⟨h8,hlo,hhi⟩⟩:=h
 ·have hle:(2:Int)^(8*f.size)≤2^56:=by
   have:2^(8*f.size)≤2^56:=Nat.pow_le_pow_right (by decide) (by omega)
   exact_mod_cast this
  exact⟨by omega,by omega⟩
 ·have hle:(2:Int)^(8*f.size - 1)≤2^56:=by
   have:2^(8*f.size - 1)≤2^56:=Nat.pow_le_pow_right (by decide) (by omega)
   exact_mod_cast this
  exact⟨by omega,by omega⟩
 ·exact⟨by omega,by omega⟩
theorem b2M(hb:∀b∈bs,J5 b){x:In}:∀ {l:List Fld},(∀f∈l,a2h f)→l.length≤2→s.1≤bs.length→(D9 bs l s).2.2.2=0→(x.a=(D9 bs l s).1)→(2≤l.length→x.b=(D9 bs l s).2.1)→
  a7w x 0 l=true∧Seg bs s.1 (Y1 x 0 l)∧(D9 bs l s).2.2.1=s.1+(Y1 x 0 l).length∧I64 x.a∧(2≤l.length→I64 x.b)∧(l.length<2→(D9 bs l s).2.1=0)∧(l.length<1→x.a=0)
 | [],_,_,hs,h,ha,_=>by
  have ha:x.a=0:=ha
  exact⟨rfl,Seg.nil hs,rfl,by rw[ha];exact⟨by decide,by decide⟩,fun h=>by simp at h,fun _=>rfl,fun _=>ha⟩
 | [f],hg,_,hs,h,ha,_=>by
  have hf:=hg f (by simp)
  obtain⟨h0,h1,h2,h3⟩:=a6F hb (a3u hf) (show(B0 bs f s).2.2=0 from h)
  have ha:x.a=(B0 bs f s).1:=ha
  have hn:x.num 0=(B0 bs f s).1:=ha
  refine⟨by simp[a7w,hn,h1],by simpa [Y1,hn]using h3, ?_,by rw[ha];exact a5T hf h1,fun h=>by simp at h,fun _=>rfl,fun h=>by simp at h⟩
  simp only[Y1,hn,List.append_nil,l9]
  exact h2
 | [f,g],hg,_,hs,h,ha,hbb=>by
  have hf:=hg f (by simp)
  have hg:=hg g (by simp)
  have hb2:x.b=(B0 bs g (B0 bs f s).2).1:=hbb (by simp)
  obtain⟨k0,k1,k2,k3⟩:=a6F hb (a3u hg) (show(B0 bs g (B0 bs f s).2).2.2=0 from h)
  obtain⟨h0,h1,h2,h3⟩:=a6F hb (a3u hf) k0
  have ha:x.a=(B0 bs f s).1:=ha
  have hn:x.num 0=(B0 bs f s).1:=ha
  have hn1:x.num 1=(B0 bs g (B0 bs f s).2).1:=hb2
  refine⟨by simp[a7w,hn,hn1,h1,k1], ?_, ?_,by rw[ha];exact a5T hf h1,fun _=>by rw[hb2];exact a5T hg k1,fun h=>by simp at h,fun h=>by simp at h⟩
  ·simp only[Y1,hn,hn1,List.append_nil]
   refine h3.append ?_
   rw[l9, ←h2];exact k3
  ·simp only[Y1,hn,hn1,List.append_nil,List.length_append,l9]
   show(B0 bs g (B0 bs f s).2).2.1=_
   omega
 |_::_::_::_,_,h,_,_,_,_=>by simp at h
theorem b6q(hb:∀b∈bs,J5 b){w:Int}:∀(n:Nat) (s:Nat×Int) (acc:List (Int×Int)),s.1≤bs.length→(D1 bs w n s acc).2.2=0→
  ∃new,(D1 bs w n s acc).1=acc++new∧new.length=n∧new.all (b4s w)=true∧Seg bs s.1 (a0C new)∧(D1 bs w n s acc).2.1=s.1+(a0C new).length∧(∀y∈new,I64 y.1∧I64 y.2)
 |0,s,acc,hs,h=>⟨[],by simp[D1],rfl,rfl,Seg.nil hs,rfl,fun y hy=>by cases hy⟩
 |n+1,s,acc,hs,h=>by
  have h0:=a3P h
  have eE:D1 bs w (n+1) s acc=D1 bs w n (B0 bs B8 (B0 bs (vF w) s).2).2 (acc++[((B0 bs (vF w) s).1,(B0 bs B8 (B0 bs (vF w) s).2).1)]):=by rw[D1,if_neg (by simp[h0])]
  rw[eE]at h ⊢
  obtain⟨k0,k1,k2,k3⟩:=a6F hb (by decide) (a3P h:(B0 bs B8 (B0 bs (vF w) s).2).2.2=0)
  obtain⟨h0,h1,h2,h3⟩:=a6F hb (by show 8≤8;omega) k0
  have hle:(B0 bs B8 (B0 bs (vF w) s).2).2.1≤bs.length:=by
   have:=k3.1
   rw[l9]at this
   omega
  obtain⟨new,e1,e2,e3,e4,e5,e6⟩:=b6q hb n _ _ hle h
  have sz1:(vF w).size=8:=rfl
  have sz2:B8.size=4:=rfl
  refine⟨((B0 bs (vF w) s).1,(B0 bs B8 (B0 bs (vF w) s).2).1)::new,by rw[e1];simp,by simp[e2], ?_, ?_, ?_, ?_⟩
  ·rw[List.all_cons,b9n,h1,k1,e3];rfl
  ·have:a0C (((B0 bs (vF w) s).1,(B0 bs B8 (B0 bs (vF w) s).2).1)::new)=(J3 (B0 bs (vF w) s).1 8++J3 (B0 bs B8 (B0 bs (vF w) s).2).1 4)++a0C new:=by simp[a0C,c2J]
   rw[this]
   refine(Seg.append h3 ?_).append ?_
   ·rw[l9, ←h2];exact k3
   ·rw[List.length_append,l9,l9]
    rw[sz1]at h2
    rw[sz2]at k2
    have:s.1+(8+4)=(B0 bs B8 (B0 bs (vF w) s).2).2.1:=by omega
    rw[sz1,this];exact e4
  ·rw[e5,X2,X2,List.length_cons]
   omega
  ·intro y hy
   rcases List.mem_cons.1 hy with rfl|hy
   ·exact⟨a5T (b9f w) h1,a5T a3I k1⟩
   ·exact e6 y hy
theorem c4H(hb:∀b∈bs,J5 b)(hp:p<bs.length){op a b:Int}{arms:List (Int×Int)}{next:Nat}(h:b0r bs p=((op,a,b,arms),(next,0))){x:In}(hx:x.dat=(op,a,b,arms)):
  x.Ok∧isS x=true∧Seg bs p (Z6 x)∧next=p+(Z6 x).length:=by
 have hlay:lay (bs.getD p 0)≠none:=by
  intro e
  unfold b0r at h
  rw[if_pos e]at h
  have:=congrArg (fun d=>d.2.2) h
  simp at this
 have hX:a7i bs p=((op,a,b,arms),(next,0)):=by
  unfold b0r at h
  rw[if_neg hlay]at h
  by_cases h0:(a7i bs p).2.2=0
  ·rw[if_neg (by simp[h0])]at h;exact h
  ·rw[if_pos h0]at h
   have:=congrArg (fun d=>d.2.2) h
   exact(h0 this).elim
 obtain⟨l,hl⟩:=Option.ne_none_iff_exists'.1 hlay
 obtain⟨hx1,hx2,hx3,hx4⟩:x.op=op∧x.a=a∧x.b=b∧x.arms=arms:=by
  have e:=hx
  unfold In.dat at e
  simp only[Prod.mk.injEq]at e
  exact e
 have hgood:=a8M (bs.getD p 0)
 have hlen:=a7h (op:=bs.getD p 0)
 rw[hl]at hgood hlen
 simp only[Option.getD_some]at hgood hlen
 have hby:J5 (bs.getD p 0):=by
  rw[List.getD_eq_getElem?_getD,List.getElem?_eq_getElem hp]
  exact hb _ (List.getElem_mem _)
 have hseg0:Seg bs p [bs.getD p 0]:=by
  refine⟨by simp;omega, ?_⟩
  rw[List.getD_eq_getElem?_getD,List.getElem?_eq_getElem hp]
  show(bs.drop p).take 1=[bs[p]]
  rw[List.drop_eq_getElem_cons hp]
  rfl
 unfold a7i at hX
 rw[hl,Option.getD_some]at hX
 by_cases h49:bs.getD p 0=49
 ·rw[if_pos h49]at hX
  have hl1:l=[a6J]:=b9A hl h49
  subst hl1
  unfold a2z at hX
  obtain⟨r,hr⟩:∃r,r=D9 bs [a6J] (p+1,0):=⟨_,rfl⟩
  rw[←hr]at hX
  simp only[Prod.mk.injEq]at hX
  obtain⟨⟨q1,q2,q3,q4⟩,q5⟩:=hX
  have t0:=congrArg Prod.snd q5
  simp only at t0
  obtain⟨u0,u1,u2,u3⟩:=a6F hb (by decide) t0
  have v0:=a3P u0
  obtain⟨w0,w1,w2,w3⟩:=a6F hb (by decide) v0
  have hop:x.op=49:=by rw[hx1, ←q1]
  have ha:x.a=r.1:=by rw[hx2, ←q2]
  obtain⟨y1,y2,y3,y4,y5,y6,y7⟩:=b2M (x:=x) (s:=(p+1,0)) hb hgood hlen (by simp only;omega) (by rw[←hr];exact w0) (by rw[←hr];exact ha) (fun h=>by simp at h)
  rw[←hr]at y3
  have hle1:r.2.2.1≤bs.length:=by rw[y3];exact y2.1
  have hle2:(B0 bs fIx r.2.2).2.1≤bs.length:=c3g hle1
  obtain⟨new,e1,e2,e3,e4,e5,e6⟩:=b6q hb _ _ _ hle2 u0
  rw[List.nil_append]at e1
  have harms:x.arms=new:=by rw[hx4, ←q4,e1]
  have hb2:=hx3.trans q3.symm
  have hcnt:=of_decide_eq_true w1
  have hcnt0:0≤(B0 bs fIx r.2.2).1∧(B0 bs fIx r.2.2).1≤65535:=hcnt
  have hn:((new.length:Nat):Int)=(B0 bs fIx r.2.2).1:=by rw[e2];omega
  have hlv:=of_decide_eq_true u1
  have hS:isS x=true:=by
   unfold isS
   rw[hop,if_pos rfl,show lay 49=some [a6J]from rfl,Option.getD_some,y1,harms,ha,e3,hb2]
   simp only[Option.isSome_some,Bool.true_and,Bool.and_true,Bool.and_eq_true,decide_eq_true_eq]
   exact⟨by omega,hlv⟩
  have hE:Z6 x=[49]++Y1 x 0 [a6J]++(J3 (B0 bs fIx r.2.2).1 2++a0C new++J3 x.b 4):=by
   unfold Z6
   rw[hop,if_pos rfl,show lay 49=some [a6J]from rfl,Option.getD_some,harms,hn]
   simp
  have hsg:Seg bs p (Z6 x):=by
   rw[hE]
   rw[h49]at hseg0
   refine(hseg0.append y2).append (Seg.append (Seg.append ?_ ?_) ?_)
   ·have:p+([49]++Y1 x 0 [a6J]).length=r.2.2.1:=by rw[y3,List.length_append];simp;omega
    rw[this];exact w3
   ·have:p+([49]++Y1 x 0 [a6J]).length+(J3 (B0 bs fIx r.2.2).1 2).length=(B0 bs fIx r.2.2).2.1:=by
     rw[w2,y3,List.length_append,l9];show _=_+2;simp;omega
    rw[this];exact e4
   ·have:p+([49]++Y1 x 0 [a6J]).length+(J3 (B0 bs fIx r.2.2).1 2++a0C new).length=(D1 bs (IntKind.u8.wrap r.1) (B0 bs fIx r.2.2).1.toNat (B0 bs fIx r.2.2).2 []).2.1:=by
     rw[e5,w2,y3,List.length_append,List.length_append,l9];show _=_+2+_;simp;omega
    rw[this,hb2];exact u3
  refine⟨⟨by rw[hop];decide,y4,by rw[hb2];exact a5T a3I u1,by rw[harms];exact e6,by rw[harms];omega⟩,hS,hsg, ?_⟩
  have t1:=congrArg Prod.fst q5
  simp only at t1
  rw[←t1,u2,e5,w2,y3,hE]
  simp only[List.length_append,l9,List.length_cons,List.length_nil]
  show _+2+_+4=_
  omega
 ·rw[if_neg h49]at hX
  simp only[Prod.mk.injEq]at hX
  obtain⟨⟨q1,q2,q3,q4⟩,q5⟩:=hX
  have t0:=congrArg Prod.snd q5
  simp only at t0
  have hop:x.op=bs.getD p 0:=by rw[hx1, ←q1]
  obtain⟨y1,y2,y3,y4,y5,y6,y7⟩:=b2M (x:=x) (s:=(p+1,0)) hb hgood hlen (by simp only;omega) t0 (by rw[hx2, ←q2]) (fun _=>by rw[hx3, ←q3])
  have harms:x.arms=[]:=by rw[hx4, ←q4]
  have hbz:l.length<2→x.b=0:=fun h=>by rw[hx3, ←q3];exact y6 h
  have hop49:x.op≠49:=by rw[hop];exact h49
  have hlx:lay x.op=some l:=by rw[hop];exact hl
  have hS:isS x=true:=by
   unfold isS
   rw[if_neg hop49,hlx,Option.getD_some,y1,harms]
   simp only[Option.isSome_some,Bool.true_and,List.length_nil,decide_true,Bool.and_eq_true,Bool.or_eq_true,decide_eq_true_eq]
   refine⟨?_, ?_⟩
   ·by_cases h2:2≤l.length
    ·exact .inl h2
    ·exact .inr (hbz (by omega))
   ·by_cases h2:1≤l.length
    ·exact .inl h2
    ·exact .inr (y7 (by omega))
  have hE:Z6 x=[bs.getD p 0]++Y1 x 0 l:=by
   unfold Z6
   rw[if_neg hop49,hlx,Option.getD_some,hop]
   simp
  refine⟨⟨by rw[hop];exact hby,y4, ?_,(by rw[harms];intro y hy;cases hy),by rw[harms];decide⟩,hS,by rw[hE];exact hseg0.append y2, ?_⟩
  ·by_cases h2:2≤l.length
   ·exact y5 h2
   ·rw[hbz (by omega)];exact⟨by decide,by decide⟩
  ·have t1:=congrArg Prod.fst q5
   simp only at t1
   rw[←t1,y3,hE]
   simp
   omega
end
theorem b6d{bs:List Int}(hb:∀b∈bs,J5 b){n:Int}(h:(y9 bs n).2.2=0){x:In}(hx:x.dat=(y9 bs n).1):
  0≤n∧n.toNat<bs.length∧x.Ok∧isS x=true∧Seg bs n.toNat (Z6 x)∧(y9 bs n).2.1=n.toNat+(Z6 x).length:=by
 by_cases hn:n<0∨n≥bs.length
 ·unfold y9 at h
  rw[if_pos hn]at h
  simp at h
 ·have hd:y9 bs n=b0r bs n.toNat:=by unfold y9;rw[if_neg hn]
  rw[hd]at h hx ⊢
  obtain⟨d,next,e,hde⟩:∃d next e,b0r bs n.toNat=(d,(next,e)):=⟨_,_,_,rfl⟩
  obtain⟨op,a,b,arms⟩:=d
  rw[hde]at h hx ⊢
  simp only at h hx ⊢
  subst h
  obtain⟨a1,a2,a3,a4⟩:=c4H hb (by omega) hde hx
  exact⟨by omega,by omega,a1,a2,a3,a4⟩
def a1t(bs:List Int):Nat→Nat→Except Int (List (Dat×Nat))
 |0,_=> .ok []
 |n+1,p=>if bs.length≤p then .ok []else if(y9 bs p).2.2=0 then(match a1t bs n (y9 bs p).2.1 with| .ok l=> .ok (((y9 bs p).1,p)::l)| .error e=> .error e) else .error (y9 bs p).2.2
def c0g(done:List (Dat×Nat)):Except Int (List (Dat×Nat))→Except Int (List (Dat×Nat))
 | .ok l=> .ok (done++l)
 | .error e=> .error e
end Go.Op
end
