/-
  BlocksJoinSaid: part Oat of its proof.
-/
import Derived.Test.YtdkidgkiplcggaaOas
import Derived.Test.YtdkidgkiplcggaaOar
import Derived.Test.YtdkidgkiplcggaaRows
import Derived.KernelRfl
set_option linter.unusedVariables false
set_option linter.unusedSimpArgs false
set_option maxRecDepth 100000
section
namespace Go.Am
mutual
def frz(k:Nat)(o:s7):D→D
 | .ptr j i=>if j=k then(match o.rows with
  | [cs]=> .elt cs i
  |_=> .any) else .ptr j i
 | .rel j r i sz=>if j=k then(match o.rows[r]? with
  |some row=>if o.sz=sz then .elt row i else .any
  |none=> .any) else .rel j r i sz
 | .raw j i len cap ex sz=>if j=k then(if o.sz=sz∧i+len≤o.rows.length∧len≤cap then .lst ((o.rows.drop i).take len) sz else .any) else .raw j i len cap ex sz
 | .fn f a b=> .fn f (W8 k o a) (W8 k o b)
 | .ifc t v=> .ifc t (frz k o v)
 | .agg cs=> .agg (W8 k o cs)
 | .tup ds=> .tup (W8 k o ds)
 |d=>d
def W8(k:Nat)(o:s7):List D→List D
 | []=>[]
 |d::ds=>frz k o d::W8 k o ds
end
section
variable{P:Program}{E:d6}{w0:i7}{R:Fz}{S:b5}{H:AHeap}
def b8e(o:s7):Prop:=o.sz<E1∨∃cs,o.rows=[cs]
mutual
theorem b5u(hC:n9 E R S H){k:Nat}{o:s7}(hk:S k=some o){R':Fz}(hle:R.le R')(hR:b8e o→R' k=some o.acs):∀ {d:D} {v:AV},Rp E R d v→Rp E R' (frz k o d) v
 | .any,v,_=>by simp only[frz,Rp]
 | .bool b,v,h=>by simp only[frz,Rp]at*;exact h
 | .int j n,v,h=>by simp only[frz,Rp]at*;exact h
 | .str s,v,h=>by simp only[frz,Rp]at*;exact h
 | .nilPtr,v,h=>by simp only[frz,Rp]at*;exact h
 | .nilSlc,v,h=>by simp only[frz,Rp]at*;exact h
 | .nilMap,v,h=>by simp only[frz,Rp]at*;exact h
 | .nilFn,v,h=>by simp only[frz,Rp]at*;exact h
 | .nilIfc,v,h=>by simp only[frz,Rp]at*;exact h
 | .mp j,v,h=>by simp only[frz,Rp]at*;exact h
 | .tip j rows sz,v,h=>by
  have:=Rp.le hle _ _ h
  simp only[frz];exact this
 | .elt row i,v,h=>by
  have:=Rp.le hle _ _ h
  simp only[frz];exact this
 | .lst rows sz,v,h=>by
  have:=Rp.le hle _ _ h
  simp only[frz];exact this
 | .ext rows more sz,v,h=>by
  have:=Rp.le hle _ _ h
  simp only[frz];exact this
 | .ptr j i,v,h=>by
  simp only[frz]
  split
  ·rename_i e
   subst e
   split
   ·rename_i cs hcs
    have hc:b8e o:= .inr ⟨_,hcs⟩
    obtain⟨h1,⟨pre,h2⟩,h3,h4,h5⟩:=hC.cells hk hc
    simp only[Rp]at h ⊢
    subst h
    rw[hcs,List.flatten_singleton]at h5
    have e:o.acs.take cs.length=o.acs:=List.take_of_length_le (by rw[h5.length];exact Nat.le_refl _)
    refine⟨.new j,0,o.acs,by rw[Nat.zero_add], ?_, ?_, ?_⟩
    ·exact hR hc
    ·rw[List.drop_zero,e];exact o4.le hle _ _ h5
    ·rw[List.drop_zero,e];exact h3
   ·exact a4J
  ·simp only[Rp]at*;exact h
 | .rel j r i sz,v,h=>by
  simp only[frz]
  split
  ·rename_i e
   subst e
   split
   ·rename_i row hrow
    split
    ·rename_i hsz
     simp only[Rp]at h ⊢
     obtain⟨hzm,rfl⟩:=h
     have hc:b8e o:= .inl (by rw[hsz];exact hzm)
     obtain⟨h1,⟨pre,h2⟩,h3,h4,h5⟩:=hC.cells hk hc
     have hl:row.length=sz:=by rw[h4 row (List.mem_of_getElem? hrow),hsz]
     refine⟨.new j,r*sz,o.acs,rfl, ?_, ?_,D5 (N7 h3 _) _⟩
     ·exact hR hc
     ·have:=(h5.drop (r*sz)).take row.length
      rw[←hsz]at this hl ⊢
      rw[hl,a5t h4 hrow]at this
      rw[hl]
      exact o4.le hle _ _ this
    ·exact a4J
   ·exact a4J
  ·simp only[Rp]at*;exact h
 | .raw j i len cap ex sz,v,h=>by
  simp only[frz]
  split
  ·rename_i e
   subst e
   split
   ·rename_i hc
    have hzm:sz<E1:=by simp only[Rp]at h;exact h.1
    have hce:b8e o:= .inl (by rw[hc.1];exact hzm)
    refine Rp.le (R:=fun i=>if i=j then some o.acs else R i) (fun i cs e=> ?_) _ _ (a2V hC hk h hc.1 hc.2.1 hc.2.2)
    replace e:(if i=j then some o.acs else R i)=some cs:=e
    split at e
    ·rename_i hi;rw[hi, ←e];exact hR hce
    ·exact hle _ _ e
   ·exact a4J
  ·simp only[Rp]at*;exact h
 | .fn f a b,v,h=>by
  simp only[frz,Rp]at*
  obtain⟨a',b',e1,e2,e3⟩:=h
  exact⟨a',b',e1,a5I hC hk hle hR e2,a5I hC hk hle hR e3⟩
 | .ifc t d,v,h=>by
  simp only[frz,Rp]at*
  obtain⟨v',e1,e2⟩:=h
  exact⟨v',e1,b5u hC hk hle hR e2⟩
 | .agg cs,v,h=>by
  simp only[frz,Rp]at*
  obtain⟨vs,e1,e2,e3⟩:=h
  exact⟨vs,e1,a5I hC hk hle hR e2,e3⟩
 | .tup ds,v,h=>by
  simp only[frz,Rp]at*
  obtain⟨vs,e1,e2⟩:=h
  exact⟨vs,e1,a5I hC hk hle hR e2⟩
theorem a5I(hC:n9 E R S H){k:Nat}{o:s7}(hk:S k=some o){R':Fz}(hle:R.le R')(hR:b8e o→R' k=some o.acs):∀ {ds:List D} {vs:List AV},o4 E R ds vs→o4 E R' (W8 k o ds) vs
 | [],vs,h=>by simp only[W8,o4]at*;exact h
 |d::ds,vs,h=>by
  simp only[W8,o4]at*
  obtain⟨v,ws,e1,e2,e3⟩:=h
  exact⟨v,ws,e1,b5u hC hk hle hR e2,a5I hC hk hle hR e3⟩
end
theorem b8.frz{Q:D→b5→Prop}{d:D}{k:Nat}{o:s7}(hk:S k=Option.none)(h:b8 E Q (Am.frz k o d) S):b8 E Q d (S.set k o):=fun R H v hC hd=>by
 by_cases hc:b8e o
 ·obtain⟨h1,h2⟩:=hC.freeze (b5.set_same S k o) hc
  rw[b5.erase_set _ _ _ hk]at h1
  obtain⟨R',S',d',a,b,c,e⟩:=h _ H v h1 (b5u hC (b5.set_same S k o) h2 (fun _=>if_pos rfl) hd)
  exact⟨R',S',d',Fz.le_trans h2 a,b,c,e⟩
 ·have h1:=hC.less (S':=S) fun j x e=>by
   rw[b5.set_ne]
   ·exact e
   ·rintro rfl;rw[hk]at e;cases e
  exact h R H v h1 (b5u hC (b5.set_same S k o) (Fz.le_refl R) (fun h=>absurd h hc) hd)
def Wk(d d':D):Prop:=∀(E:d6) (R:Fz) (v:AV),Rp E R d v→Rp E R d' v
def WkL:List D→List D→Prop
 | [],[]=>True
 |d::ds,e::es=>Wk d e∧WkL ds es
 |_,_=>False
theorem Wk.refl(d:D):Wk d d:=fun _ _ _ h=>h
theorem Wk.any(d:D):Wk d .any:=fun _ _ _ _=>a4J
theorem Wk.nil(sz:Nat):Wk .nilSlc (.lst [] sz):=fun E R v h=>by simp only[Rp]at h ⊢;exact .inl ⟨by trivial,h⟩
theorem Wk.ext(rows more:List (List D))(sz:Nat):Wk (.ext rows more sz) (.lst rows sz):=fun E R v h=>by
 simp only[Rp]at h ⊢
 obtain⟨o,j,cap,ex,z,all,e1,e2,e3,e4,e5,e6,e7,e8,e9⟩:=h
 refine .inr ⟨o,j,cap,ex,z,e1,e2,by omega,e4, ?_⟩
 rcases e6 with e6|⟨e6,_⟩
 rotate_left
 ·exact .inl e6
 refine .inr ⟨all,e6,e7, ?_⟩
 have:=D5 e9 (rows.length*sz)
 rw[List.take_take,Nat.min_eq_left (Nat.mul_le_mul_right _ (by omega))]at this
 exact this
theorem DF.split{f:FuncId}{sz:Nat}{pre post:List D}{S:b5}{Q:D→b5→Prop}(h1:r7 P E w0 f (pre++ .nilSlc::post) S Q)(h2:r7 P E w0 f (pre++ .ext [] [] sz::post) S Q):r7 P E w0 f (pre++ .lst [] sz::post) S Q:=fun R H avs hF hC ha=>by
 obtain⟨v1,v2,rfl,g1,g2⟩:=a0c ha
 simp only[o4]at g2
 obtain⟨w,ws,rfl,g3,g4⟩:=g2
 simp only[Rp]at g3
 rcases g3 with ⟨_,rfl⟩|⟨o,j,cap,ex,z,rfl,f1,f2,_,_⟩
 ·exact h1 R H _ hF hC (g1.append (j6 (by simp only[Rp]) g4))
 ·refine h2 R H _ hF hC (g1.append (j6 ?_ g4))
  simp only[Rp]
  exact⟨o,j,cap,ex,z,[],rfl,f1,by simp,by simp,by simp,by simp,by simp[R4],by simp[R4],by simp⟩
theorem WkL.refl:∀ds:List D,WkL ds ds
 | []=>trivial
 |d::ds=>⟨Wk.refl d,WkL.refl ds⟩
theorem WkL.ok:∀ {ds es:List D},WkL ds es→∀ {E:d6} {R:Fz} {vs:List AV},o4 E R ds vs→o4 E R es vs
 | [],[],_,E,R,vs,h=>h
 |d::ds,e::es,w,E,R,vs,h=>by
  simp only[o4]at h ⊢
  obtain⟨v,ws,e1,e2,e3⟩:=h
  exact⟨v,ws,e1,w.1 _ _ _ e2,WkL.ok w.2 e3⟩
 | [],_::_,w,_,_,_,_=>w.elim
 |_::_,[],w,_,_,_,_=>w.elim
theorem Wk.agg{ds es:List D}(w:WkL ds es):Wk (.agg ds) (.agg es):=fun E R v h=>by
 simp only[Rp]at h ⊢
 obtain⟨vs,e1,e2,e3⟩:=h
 exact⟨vs,e1,w.ok e2,e3⟩
theorem Wk.tup{ds es:List D}(w:WkL ds es):Wk (.tup ds) (.tup es):=fun E R v h=>by
 simp only[Rp]at h ⊢
 obtain⟨vs,e1,e2⟩:=h
 exact⟨vs,e1,w.ok e2⟩
theorem b8.weak{Q:D→b5→Prop}{d d':D}(w:Wk d d')(h:b8 E Q d' S):b8 E Q d S:=fun R H v hC hd=>h R H v hC (w _ _ _ hd)
theorem DF.weak{f:FuncId}{ds es:List D}{Q:D→b5→Prop}(w:WkL ds es)(h:r7 P E w0 f es S Q):r7 P E w0 f ds S Q:=fun R H avs hF hC ha=>h R H avs hF hC (w.ok ha)
theorem b8.drop{Q:D→b5→Prop}{d:D}{k:Nat}{o:s7}(hk:S k=Option.none)(h:b8 E Q d S):b8 E Q d (S.set k o):=b8.less (b5.le_new hk) h
theorem b8.pure{d:D}:b8 E (fun d' S'=>d'=d∧S'=S) d S:=b8.here ⟨rfl,rfl⟩
theorem b9Q{k i len cap sz:Nat}{ex:Bool}{rows:List (List D)}{acs:List AV}(h:i+len≤rows.length)(hc:len≤cap):Am.frz k ⟨sz,rows,acs⟩ (.raw k i len cap ex sz)= .lst ((rows.drop i).take len) sz:=by
 simp only[Am.frz,if_true];rw[if_pos ⟨by trivial,h,hc⟩]
end
end Go.Am
end
section
open Go.Proofs Go Go.Am Go.Op
namespace Go.Proofs.Ytdkidgkiplcggaa.d
section
section
variable{E:d6}{w0:i7}
theorem b4F{w:Int}:a0X Try.prog E w0 a4F [.int .u8 w] (.int .i64 (b6z w)):=fun S=>by
 refine b3c ?_
 unfold a9S b6z
 simp only[a6c,oD,cdB,beq_iff_eq,beq_eq_false_iff_ne,ne_eq]
 refine⟨fun h=> ?_,fun h1=>⟨fun h=> ?_,fun h2=>⟨fun h=> ?_,fun h3=> ?_⟩⟩⟩<;>simp only[*,if_true,if_false]<;>exact b8.pure
theorem b5Y{w n:Int}:a0X Try.prog E w0 a5j [.int .u8 w, .int .i64 n] (.int .i64 (b4i w n)):=fun S=>by
 refine b2m ?_
 unfold b0c b4i
 simp only[a6c,oD,cdB,beq_iff_eq,beq_eq_false_iff_ne,ne_eq,cvI]
 refine⟨fun h=> ?_,fun h1=>⟨fun h=> ?_,fun h2=>⟨fun h=> ?_,fun h3=> ?_⟩⟩⟩<;>simp only[*,if_true,if_false]<;>exact b8.pure
theorem c2O(n:Int):IntKind.i8.wrap n=if 128≤n % 256 then n % 256 - 256 else n % 256:=by
 simp only[IntKind.wrap,IntKind.bits,IntKind.signed];simp
theorem c2q(n:Int):IntKind.i32.wrap n=if 2147483648≤n % 4294967296 then n % 4294967296 - 4294967296 else n % 4294967296:=by
 simp only[IntKind.wrap,IntKind.bits,IntKind.signed];simp
theorem c1U{w n:Int}(hn:I64 n):(0<b6z w∧b4i w n=n)↔(Y2 w≤n∧n≤Y6 w):=by
 obtain⟨h0,h1⟩:=hn
 unfold b6z b4i Y2 Y6
 by_cases w1:w=1
 ·simp only[if_pos w1]
  rw[c2O,g9 (by split<;>omega) (by split<;>omega)]
  split<;>constructor<;>omega
 simp only[if_neg w1]
 by_cases w2:w=2
 ·simp only[if_pos w2]
  rw[c2q,g9 (by split<;>omega) (by split<;>omega)]
  split<;>constructor<;>omega
 simp only[if_neg w2]
 by_cases w3:w=3
 ·simp only[if_pos w3];exact⟨fun _=>⟨h0,h1⟩,fun _=>⟨by decide,by trivial⟩⟩
 simp only[if_neg w3];constructor<;>omega
theorem b5P{w n:Int}(hn:I64 n):a0X Try.prog E w0 a4A [.int .u8 w, .int .i64 n] (.bool (decide (Y2 w≤n∧n≤Y6 w))):=fun S=>by
 refine b1h ?_
 unfold a9W
 refine b4F.use ?_
 have hi:=c1U (w:=w) hn
 by_cases hb:b6z w>0
 ·simp[hb]
  refine b5Y.use ?_
  have e:(b4i w n==n)=decide (Y2 w≤n∧n≤Y6 w):=by
   by_cases hw:b4i w n=n
   ·rw[decide_eq_true (hi.1 ⟨hb,hw⟩),hw];simp
   ·rw[decide_eq_false (fun h=>hw (hi.2 h).2)];simpa using hw
  simp[e]
  exact b8.pure
 ·have e:decide (Y2 w≤n∧n≤Y6 w)=false:=decide_eq_false fun h=>hb (hi.2 h).1
  rw[e]
  simp[hb]
  exact b8.pure
def V1(lo hi:Int):D:= .fn (.func L2) [] [.elt [.int .i64 lo] 0, .elt [.int .i64 hi] 0]
def a6e(w:Int):D:= .fn (.func X3) [] [.elt [.int .u8 w] 0]
theorem B2{lo hi:Int}:a0X Try.prog E w0 j5 [.int .i64 lo, .int .i64 hi] (V1 lo hi):=fun S=>by
 refine a9B ?_
 unfold a6z
 simp only[clI,oD]
 intro k acs hk k2 acs2 hk2
 obtain⟨hne,hk20⟩:=b5.fresh hk2
 refine b8.frz hk2 (b8.frz hk ?_)
 simp only[Am.frz,W8,if_true,if_neg hne,if_neg (Ne.symm hne)]
 exact b8.pure
theorem W3{w:Int}:a0X Try.prog E w0 z8 [.int .u8 w] (a6e w):=fun S=>by
 refine b3F ?_
 unfold b1e
 simp only[clI,oD]
 intro k acs hk
 refine b8.frz hk ?_
 simp only[Am.frz,W8,if_true]
 exact b8.pure
theorem a8N{lo hi n:Int}:a0X Try.prog E w0 L2 [.int .i64 n, .elt [.int .i64 lo] 0, .elt [.int .i64 hi] 0] (.bool (decide (lo≤n∧n≤hi))):=fun S=>by
 refine a7c ?_
 unfold a4j
 by_cases h:lo≤n<;>simp[h]<;>exact b8.pure
theorem b3H{w n:Int}(hn:I64 n):a0X Try.prog E w0 X3 [.int .i64 n, .elt [.int .u8 w] 0] (.bool (decide (Y2 w≤n∧n≤Y6 w))):=fun S=>by
 refine b0E ?_
 unfold a8j
 simp only[lsE,List.getElem?_cons_zero,oD]
 exact(b5P hn).use b8.pure
end
end
section
def bD(bs:List Int):D:= .lst (U6 (bs.map (D.int .u8))) 1
theorem c1K{bs:List Int}{i:Nat}{b:Int}(h:bs[i]? =some b):m9 1 (bD bs) (.int .i64 (i:Int))=some (.elt [.int .u8 b] 0):=
 b5F (b6o (by rw[List.getElem?_map,h];rfl))
@[simp] theorem a9c(bs:List Int):j8 (bD bs)=some (.int .i64 bs.length):=by simp[bD]
@[simp] theorem c5O(S:b5)(bs:List Int):rowsS S 1 (bD bs)=some (U6 (bs.map (D.int .u8))):=by simp[bD,rowsS,E7]
theorem b5e{a:Nat}(h:a<2^64):IntKind.u64.wrap (a:Int)=a:=by rw[c2u];omega
theorem b0h{w a:Nat}:(BitVec.ofInt w (a:Int)).toNat=a % 2^w:=by simp
theorem c3U{a b:Nat}(ha:a<2^64)(hb:b<2^64):d4 .or (.int .u64 (a:Int)) (.int .u64 (b:Int))=some (.int .u64 ((a ||| b:Nat):Int)):=by
 rw[c5T]
 show some (D.int .u64 (IntKind.u64.wrap ((BitVec.ofInt 64 (a:Int) ||| BitVec.ofInt 64 (b:Int)).toNat:Int)))=_
 rw[BitVec.toNat_or,b0h,b0h,Nat.mod_eq_of_lt ha,Nat.mod_eq_of_lt hb,b5e (Nat.or_lt_two_pow ha hb)]
theorem c2D{a i:Nat}(hi:i≤64)(h:a*2^i<2^64):d4 .shl (.int .u64 (a:Int)) (.int .i64 (i:Int))=some (.int .u64 ((a*2^i:Nat):Int)):=by
 rw[c3z _ _ _ _ (by omega),Int.toNat_natCast,show IntKind.u64.bits=64 from rfl,Nat.min_eq_left hi]
 have e:(a:Int)*2^i=((a*2^i:Nat):Int):=by simp
 rw[e,b5e h]
theorem c4f{a b i:Nat}(h:a<2^i):a ||| (b*2^i)=a+b*2^i:=by
 have:=Nat.two_pow_add_eq_or_of_lt h b
 rw[Nat.or_comm,Nat.mul_comm b, ←this,Nat.add_comm]
section
variable{E:d6}{w0:i7}
theorem b5V{bs:List Int}(hb:∀b∈bs,J5 b)(hl:bs.length<2^60){p s:Nat}(hp:p≤bs.length)(h1:1≤s)(h8:s≤8):a0X Try.prog E w0 a4N [bD bs, .int .i64 (p:Int), .int .i64 (s:Int)]
  (if bs.length<p+s then .tup [.int .u64 0, .int .i64 0, .int .i64 10]else .tup [.int .u64 (leN ((bs.drop p).take s):Nat), .int .i64 ((p+s:Nat):Int), .int .i64 0]):=fun S=>by
 refine b1R ?_
 unfold a9X
 have c1:decide ((s:Int)<1)=false:=decide_eq_false (by omega)
 have c2:decide ((s:Int)>8)=false:=decide_eq_false (by omega)
 have c3:decide ((p:Int)<0)=false:=decide_eq_false (by omega)
 have c4:decide ((p:Int)>bs.length)=false:=decide_eq_false (by omega)
 simp only[a3K,b0O,oD,c1,c2,c3,cdF,a9c,c4]
 unfold U7
 simp only[cdF,a9c,oD,a7o,b0O]
 rw[g9 (by omega) (by omega),cdI]
 refine⟨fun hs=> ?_,fun hs=> ?_⟩
 ·rw[if_pos (by omega)];exact b8.pure
 rw[if_neg (by omega)]
 refine a9i (I:=fun n x0 x1 x2 x9 x29 x30 S'=>S'=S∧x0=bD bs∧x1= .int .i64 (p:Int)∧x2= .int .i64 (s:Int)∧x29= .int .i64 (s:Int)∧∃i:Nat,x30= .int .i64 (i:Int)∧i+n=s∧x9= .int .u64 ((leN ((bs.drop p).take i):Nat):Int)) ?_ (n:=s)
  ⟨rfl,rfl,rfl,rfl,rfl,0,rfl,by omega,rfl⟩
 rintro n _ _ _ _ _ _ _ ⟨rfl,rfl,rfl,rfl,rfl,i,rfl,hi,rfl⟩
 unfold a2P
 rw[a3K,oD,cdI]
 refine⟨fun hlt=> ?_,fun hge=> ?_⟩
 ·have hlt2:p+i<bs.length:=by omega
  obtain⟨y,hy⟩:∃y,y=bs[p+i]:=⟨_,rfl⟩
  have hj:bs[p+i]? =some y:=by rw[List.getElem?_eq_getElem hlt2,hy]
  obtain⟨b0,b1⟩:=hb y (by rw[hy];exact List.getElem_mem _)
  obtain⟨xn,hxn⟩:∃xn:Nat,y=(xn:Int):=⟨y.toNat,by omega⟩
  have hbs:∀b∈(bs.drop p).take i,J5 b:=fun b hb'=>hb b (List.mem_of_mem_drop (List.mem_of_mem_take hb'))
  have hlen:((bs.drop p).take i).length=i:=by rw[List.length_take,List.length_drop];omega
  have e3:=b1k hbs
  rw[hlen]at e3
  have htk:(bs.drop p).take (i+1)=(bs.drop p).take i++[y]:=by
   rw[List.take_add_one,List.getElem?_drop,hj];rfl
  have hsn:=b6i ((bs.drop p).take i) y
  rw[←htk,hlen]at hsn
  have e4:=b1k (l:=(bs.drop p).take (i+1)) fun b hb'=>hb b (List.mem_of_mem_drop (List.mem_of_mem_take hb'))
  rw[show((bs.drop p).take (i+1)).length=i+1 by rw[List.length_take,List.length_drop];omega]at e4
  have h3:2^(8*(i+1))≤2^64:=Nat.pow_le_pow_right (by decide) (by omega)
  have h4:2^(8*i)≤2^64:=Nat.pow_le_pow_right (by decide) (by omega)
  have hxt:y.toNat=xn:=by omega
  rw[hxt]at hsn
  rw[J8,oD,g9 (by omega) (by omega),show(p:Int)+(i:Int)=((p+i:Nat):Int) by omega,c1K hj,oD,lsE,List.getElem?_cons_zero,oD,cvI,oD,hxn,b5e (by omega),c3F,oD,g9 (by omega) (by omega),
   show 8*(i:Int)=((8*i:Nat):Int) by omega,c2D (by omega) (by omega),oD,c3U (by omega) (by omega),oD,c4f e3,J8,oD,g9 (by omega) (by omega)]
  exact⟨n - 1,by omega,rfl,rfl,rfl,rfl,rfl,i+1,by simp,by omega,by simp only[hsn]⟩
 ·obtain rfl:i=s:=by omega
  rw[J8,oD,g9 (by omega) (by omega),show(p:Int)+(i:Int)=((p+i:Nat):Int) by omega]
  exact b8.pure
end
end
end Go.Proofs.Ytdkidgkiplcggaa.d
end
section
open Go.Proofs Go Go.Am
namespace Go.Proofs.Ytdkidgkiplcggaa.d
def C0:List (Nat×List Nat):=[]
def C1:List (Nat×List Nat):=[(89,[0,4,5,6,13,29]),(101,[0,4,5,6,13,44]),(113,[0,5,6,13,50]),(137,[0,5,6,13,61])]
def C3:List (Nat×Arr):=[]
noncomputable def a8E:Code:=(j4 [1,1,1,0,1,0,1,1,1,1,1,1,1,1,1,1,1,1,1,1,1] (Try.f60.body.getD .skip))
def a8e(E:d6)(w0:i7)(Q:D→b5→Prop):j7→List D→b5→Prop:=
 (A4 0 (a1O Try.prog E w0 C0 C1 C3 (j4 [1,1,1,1] (Try.f60.body.getD .skip)) (R5 Try.prog Try.f60 Q)))
def a2Z(E:d6)(w0:i7)(Q:D→b5→Prop)(x0 x5 x6 x13 x61:D)(S:b5):Prop:=
 d9 x61
 (a8 (s0 S 2 x5) fun v56=>
 M2 S 2 (A1 2 (List.replicate 1 [(.int .i64 0), .nilFn]) [(0,v56)]) 1 fun v57 S58=>
 Q (.tup [v57,(.bool true)]) S58)
 (a8 (d4 .eql x13 (.int .u8 52)) fun v59=>
 d9 v59
 (r7 Try.prog E w0 j5 [(.int .i64 0),(.int .i64 255)] S fun v60 S61=>
 a8 (E2 (r8 [(.int .i64 0), .nilFn] [(0,1,(.int .i64 1)),(1,1,v60)])) fun v62=>
 M2 S61 2 (A1 2 (List.replicate 1 [(.int .i64 0), .nilFn]) [(0,v62)]) 1 fun v63 S64=>
 Q (.tup [v63,(.bool true)]) S64)
 (a8 (d4 .eql x13 (.int .u8 49)) fun v65=>
 d9 v65
 (a8 (s0 S 2 x6) fun v66=>
 M2 S 2 (A1 2 (List.replicate 1 [(.int .i64 0), .nilFn]) [(0,v66)]) 1 fun v67 S68=>
 Q (.tup [v67,(.bool true)]) S68)
 (a8 (d4 .geq x0 (.int .u8 11)) fun v69=>
 a8 (c8 (b7 v69 true) (some x0)) fun v70=>
 a8 (c8 (b7 v69 true) (d4 .leq v70 (.int .u8 28))) fun v71=>
 a8 (F5 v69 v71 (.bool false)) fun v72=>
 d9 v72
 (a8 (s0 S 2 x6) fun v73=>
 M2 S 2 (A1 2 (List.replicate 1 [(.int .i64 0), .nilFn]) [(0,v73)]) 1 fun v74 S75=>
 Q (.tup [v74,(.bool true)]) S75)
 (a8 (d4 .geq x0 (.int .u8 1)) fun v76=>
 a8 (c8 (b7 v76 true) (some x0)) fun v77=>
 a8 (c8 (b7 v76 true) (d4 .leq v77 (.int .u8 52))) fun v78=>
 a8 (F5 v76 v78 (.bool false)) fun v79=>
 Q (.tup [.nilSlc,v79]) S))))
def J1(E:d6)(w0:i7)(Q:D→b5→Prop)(x0 x5 x6 x13 x61:D)(S:b5):Prop:=d5 Try.prog E w0 a8E (g8 90 [0,5,6,13,61] [x0,x5,x6,x13,x61]) S (a8e E w0 Q)
theorem a6g{E:d6}{w0:i7}{Q:D→b5→Prop}{x0 x5 x6 x13 x61:D}{S:b5}(h:a2Z E w0 Q x0 x5 x6 x13 x61 S):J1 E w0 Q x0 x5 x6 x13 x61 S:=f9 C0 C1 C3 mixed (by kernel_rfl) h
noncomputable def a9n:Code:=(j4 [1,1,1,0,1,0,1,1,1,1,1,1,1,1,1,1,1] (Try.f60.body.getD .skip))
def a8a(E:d6)(w0:i7)(Q:D→b5→Prop):j7→List D→b5→Prop:=
 (A4 0 (a1O Try.prog E w0 C0 C1 C3 (j4 [1,1,1,1] (Try.f60.body.getD .skip)) (R5 Try.prog Try.f60 Q)))
def a3j(E:d6)(w0:i7)(Q:D→b5→Prop)(x0 x5 x6 x13 x50:D)(S:b5):Prop:=
 d9 x50
 (r7 Try.prog E w0 j5 [(.int .i64 1),(.int .i64 5)] S fun v46 S47=>
 a8 (E2 (r8 [(.int .i64 0), .nilFn] [(0,1,(.int .i64 1)),(1,1,v46)])) fun v48=>
 M2 S47 2 (A1 2 (List.replicate 1 [(.int .i64 0), .nilFn]) [(0,v48)]) 1 fun v49 S50=>
 Q (.tup [v49,(.bool true)]) S50)
 (a8 (d4 .eql x13 (.int .u8 29)) fun v51=>
 d9 v51
 (a8 (s0 S 2 x6) fun v52=>
 a8 (s0 S 2 x6) fun v53=>
 M2 S 2 (A1 2 (List.replicate 2 [(.int .i64 0), .nilFn]) [(0,v52),(1,v53)]) 2 fun v54 S55=>
 Q (.tup [v54,(.bool true)]) S55)
 (a8 (d4 .eql x13 (.int .u8 46)) fun v80=>
 d9 v80
 (J1 E w0 Q x0 x5 x6 x13 v80 S)
 (a8 (d4 .eql x13 (.int .u8 47)) fun v81=>
 d9 v81
 (J1 E w0 Q x0 x5 x6 x13 v81 S)
 (a8 (d4 .eql x13 (.int .u8 48)) fun v82=>
 J1 E w0 Q x0 x5 x6 x13 v82 S))))
def P9(E:d6)(w0:i7)(Q:D→b5→Prop)(x0 x5 x6 x13 x50:D)(S:b5):Prop:=d5 Try.prog E w0 a9n (g8 90 [0,5,6,13,50] [x0,x5,x6,x13,x50]) S (a8a E w0 Q)
theorem a5X{E:d6}{w0:i7}{Q:D→b5→Prop}{x0 x5 x6 x13 x50:D}{S:b5}(h:a3j E w0 Q x0 x5 x6 x13 x50 S):P9 E w0 Q x0 x5 x6 x13 x50 S:=f9 C0 C1 C3 mixed (by kernel_rfl) h
noncomputable def a8S:Code:=(j4 [1,1,1,0,1,0,1,1,1,1,1,1,1,1,1] (Try.f60.body.getD .skip))
def a7T(E:d6)(w0:i7)(Q:D→b5→Prop):j7→List D→b5→Prop:=
 (A4 0 (a1O Try.prog E w0 C0 C1 C3 (j4 [1,1,1,1] (Try.f60.body.getD .skip)) (R5 Try.prog Try.f60 Q)))
def a3f(E:d6)(w0:i7)(Q:D→b5→Prop)(x0 x4 x5 x6 x13 x44:D)(S:b5):Prop:=
 d9 x44
 (a8 (s0 S 2 x4) fun v42=>
 a8 (s0 S 2 x4) fun v43=>
 M2 S 2 (A1 2 (List.replicate 2 [(.int .i64 0), .nilFn]) [(0,v42),(1,v43)]) 2 fun v44 S45=>
 Q (.tup [v44,(.bool true)]) S45)
 (a8 (d4 .eql x13 (.int .u8 23)) fun v83=>
 d9 v83
 (P9 E w0 Q x0 x5 x6 x13 v83 S)
 (a8 (d4 .eql x13 (.int .u8 24)) fun v84=>
 P9 E w0 Q x0 x5 x6 x13 v84 S))
def Q5(E:d6)(w0:i7)(Q:D→b5→Prop)(x0 x4 x5 x6 x13 x44:D)(S:b5):Prop:=d5 Try.prog E w0 a8S (g8 90 [0,4,5,6,13,44] [x0,x4,x5,x6,x13,x44]) S (a7T E w0 Q)
theorem a6d{E:d6}{w0:i7}{Q:D→b5→Prop}{x0 x4 x5 x6 x13 x44:D}{S:b5}(h:a3f E w0 Q x0 x4 x5 x6 x13 x44 S):Q5 E w0 Q x0 x4 x5 x6 x13 x44 S:=f9 C0 C1 C3 mixed (by kernel_rfl) h
noncomputable def b0G:Code:=(j4 [1,1,1,0,1,0,1,1,1,1,1,1,1] (Try.f60.body.getD .skip))
def a9F(E:d6)(w0:i7)(Q:D→b5→Prop):j7→List D→b5→Prop:=
 (A4 0 (a1O Try.prog E w0 C0 C1 C3 (j4 [1,1,1,1] (Try.f60.body.getD .skip)) (R5 Try.prog Try.f60 Q)))
def a4a(E:d6)(w0:i7)(Q:D→b5→Prop)(x0 x4 x5 x6 x13 x29:D)(S:b5):Prop:=
 d9 x29
 (a8 (s0 S 2 x4) fun v39=>
 M2 S 2 (A1 2 (List.replicate 1 [(.int .i64 0), .nilFn]) [(0,v39)]) 1 fun v40 S41=>
 Q (.tup [v40,(.bool true)]) S41)
 (a8 (d4 .eql x13 (.int .u8 37)) fun v85=>
 d9 v85
 (Q5 E w0 Q x0 x4 x5 x6 x13 v85 S)
 (a8 (d4 .eql x13 (.int .u8 38)) fun v86=>
 Q5 E w0 Q x0 x4 x5 x6 x13 v86 S))
def m8(E:d6)(w0:i7)(Q:D→b5→Prop)(x0 x4 x5 x6 x13 x29:D)(S:b5):Prop:=d5 Try.prog E w0 b0G (g8 90 [0,4,5,6,13,29] [x0,x4,x5,x6,x13,x29]) S (a9F E w0 Q)
theorem a6G{E:d6}{w0:i7}{Q:D→b5→Prop}{x0 x4 x5 x6 x13 x29:D}{S:b5}(h:a4a E w0 Q x0 x4 x5 x6 x13 x29 S):m8 E w0 Q x0 x4 x5 x6 x13 x29 S:=f9 C0 C1 C3 mixed (by kernel_rfl) h
def a7A(E:d6)(w0:i7)(Q:D→b5→Prop)(a0:D)(S:b5):Prop:=
 r7 Try.prog E w0 j5 [(.int .i64 0),(.int .i64 65535)] S fun v0 S1=>
 a8 (E2 (r8 [(.int .i64 0), .nilFn] [(0,1,(.int .i64 2)),(1,1,v0)])) fun v2=>
 r7 Try.prog E w0 j5 [(.int .i64 0),(.int .i64 4294967295)] S1 fun v3 S4=>
 a8 (E2 (r8 [(.int .i64 0), .nilFn] [(0,1,(.int .i64 4)),(1,1,v3)])) fun v5=>
 o8 S4 [(.int .i64 0), .nilFn] fun v6 S7=>
 o8 S7 [(.int .i64 0), .nilFn] fun v8 S9=>
 j1 S9 2 v6 v2 fun v10 S11=>
 j1 S11 2 v8 v5 fun v12 S13=>
 r7 Try.prog E w0 j5 [(.int .i64 1),(.int .i64 3)] S13 fun v14 S15=>
 a8 (E2 (r8 [(.int .i64 0), .nilFn] [(0,1,(.int .i64 1)),(1,1,v14)])) fun v16=>
 o8 S15 [(.int .i64 0), .nilFn] fun v17 S18=>
 j1 S18 2 v17 v16 fun v19 S20=>
 a8 (d4 .eql a0 (.int .u8 1)) fun v21=>
 d9 v21
 (r7 Try.prog E w0 z8 [(.int .u8 1)] S20 fun v22 S23=>
 a8 (E2 (r8 [(.int .i64 0), .nilFn] [(0,1,(.int .i64 1)),(1,1,v22)])) fun v24=>
 M2 S23 2 (A1 2 (List.replicate 1 [(.int .i64 0), .nilFn]) [(0,v24)]) 1 fun v25 S26=>
 Q (.tup [v25,(.bool true)]) S26)
 (a8 (d4 .eql a0 (.int .u8 2)) fun v27=>
 d9 v27
 (r7 Try.prog E w0 z8 [(.int .u8 2)] S20 fun v28 S29=>
 a8 (E2 (r8 [(.int .i64 0), .nilFn] [(0,1,(.int .i64 4)),(1,1,v28)])) fun v30=>
 M2 S29 2 (A1 2 (List.replicate 1 [(.int .i64 0), .nilFn]) [(0,v30)]) 1 fun v31 S32=>
 Q (.tup [v31,(.bool true)]) S32)
 (a8 (d4 .eql a0 (.int .u8 3)) fun v33=>
 d9 v33
 (r7 Try.prog E w0 z8 [(.int .u8 3)] S20 fun v34 S35=>
 a8 (E2 (r8 [(.int .i64 0), .nilFn] [(0,1,(.int .i64 8)),(1,1,v34)])) fun v36=>
 M2 S35 2 (A1 2 (List.replicate 1 [(.int .i64 0), .nilFn]) [(0,v36)]) 1 fun v37 S38=>
 Q (.tup [v37,(.bool true)]) S38)
 (a8 (d4 .eql a0 (.int .u8 6)) fun v87=>
 d9 v87
 (m8 E w0 Q a0 v6 v8 v17 a0 v87 S20)
 (a8 (d4 .eql a0 (.int .u8 7)) fun v88=>
 d9 v88
 (m8 E w0 Q a0 v6 v8 v17 a0 v88 S20)
 (a8 (d4 .eql a0 (.int .u8 8)) fun v89=>
 d9 v89
 (m8 E w0 Q a0 v6 v8 v17 a0 v89 S20)
 (a8 (d4 .eql a0 (.int .u8 50)) fun v90=>
 d9 v90
 (m8 E w0 Q a0 v6 v8 v17 a0 v90 S20)
 (a8 (d4 .eql a0 (.int .u8 36)) fun v91=>
 d9 v91
 (m8 E w0 Q a0 v6 v8 v17 a0 v91 S20)
 (a8 (d4 .eql a0 (.int .u8 39)) fun v92=>
 d9 v92
 (m8 E w0 Q a0 v6 v8 v17 a0 v92 S20)
 (a8 (d4 .eql a0 (.int .u8 40)) fun v93=>
 d9 v93
 (m8 E w0 Q a0 v6 v8 v17 a0 v93 S20)
 (a8 (d4 .eql a0 (.int .u8 41)) fun v94=>
 d9 v94
 (m8 E w0 Q a0 v6 v8 v17 a0 v94 S20)
 (a8 (d4 .eql a0 (.int .u8 42)) fun v95=>
 d9 v95
 (m8 E w0 Q a0 v6 v8 v17 a0 v95 S20)
 (a8 (d4 .eql a0 (.int .u8 43)) fun v96=>
 d9 v96
 (m8 E w0 Q a0 v6 v8 v17 a0 v96 S20)
 (a8 (d4 .eql a0 (.int .u8 44)) fun v97=>
 d9 v97
 (m8 E w0 Q a0 v6 v8 v17 a0 v97 S20)
 (a8 (d4 .eql a0 (.int .u8 45)) fun v98=>
 m8 E w0 Q a0 v6 v8 v17 a0 v98 S20))))))))))))))
theorem b0F{E:d6}{w0:i7}{Q:D→b5→Prop}{a0:D}{S:b5}(h:a7A E w0 (b8 E Q) a0 S):r7 Try.prog E w0 a3N [a0] S Q:=
 q9 C0 C1 C3 (fn:=Try.f60) (c:=Try.f60.body.getD .skip) mixed Try.func60 (by kernel_rfl) (by kernel_rfl) h
end Go.Proofs.Ytdkidgkiplcggaa.d
end
section
open Go.Proofs Go Go.Am Go.Op
namespace Go.Proofs.Ytdkidgkiplcggaa.d
section
def fR(l:List Fld):List (List D):=l.map fun f=>[.int .i64 (f.size:Int),V1 f.lo f.hi]
def a5p(op:Int):List (List D):=if op=1 then[[.int .i64 1,a6e 1]]else if op=2 then[[.int .i64 4,a6e 2]]else if op=3 then[[.int .i64 8,a6e 3]]else fR ((lay op).getD [])
section
variable{E:d6}{w0:i7}{S:b5}{Q:D→b5→Prop}{k4 k5 k6:Nat}{a4 a5 a6:List AV}{op:Int}{b:Bool}
theorem a1B{n:Int}{v:D}(h:r5 v=some [v]):E2 (r8 [(.int .i64 0), .nilFn] [(0,1,(.int .i64 n)),(1,1,v)])=some (.agg [.int .i64 n,v]):=by
 simp[r8,h,n8]
@[simp] theorem a7Y(lo hi:Int):r5 (V1 lo hi)=some [V1 lo hi]:=(rfl)
@[simp] theorem b4l(w:Int):r5 (a6e w)=some [a6e w]:=(rfl)
theorem a0W{n:Int}{v:D}{K:D→b5→Prop}(h:K (.lst [[.int .i64 n,v]] 2) S):M2 S 2 (A1 2 (List.replicate 1 [(.int .i64 0), .nilFn]) [(0, .agg [.int .i64 n,v])]) 1 K:=by
 simp only[A1,clA,List.length_cons,List.length_nil,List.replicate,List.set]
 rw[if_pos (by decide)]
 exact V4 rfl h
theorem b9o{n:Int}{v:D}{K:D→b5→Prop}(h:K (.lst [[.int .i64 n,v],[.int .i64 n,v]] 2) S):M2 S 2 (A1 2 (List.replicate 2 [(.int .i64 0), .nilFn]) [(0, .agg [.int .i64 n,v]),(1, .agg [.int .i64 n,v])]) 2 K:=by
 simp only[A1,clA,List.length_cons,List.length_nil,List.replicate,List.set]
 rw[if_pos (by decide),if_pos (by decide)]
 exact V4 rfl h
theorem bx{k:Nat}{n:Int}{v:D}{acs:List AV}(h:S k=some ⟨2,[[.int .i64 n,v]],acs⟩):s0 S 2 (.ptr k 0)=some (.agg [.int .i64 n,v]):=laP h ⟨by decide,by simp⟩
theorem b8C(h5:S k5=some ⟨2,[[.int .i64 4,V1 0 4294967295]],a5⟩)(h6:S k6=some ⟨2,[[.int .i64 1,V1 1 3]],a6⟩)(hQ:b8 E Q (.tup [.lst (fR ((c0v b op).getD [])) 2, .bool (c0v b op).isSome]) S):
  J1 E w0 (b8 E Q) (.int .u8 op) (.ptr k5 0) (.ptr k6 0) (.int .u8 op) (.bool b) S:=by
 refine a6g ?_
 unfold a2Z
 unfold c0v at hQ
 have nilq:b8 E Q (.tup [.lst [] 2, .bool true]) S→b8 E Q (.tup [.nilSlc, .bool true]) S:=fun h=>b8.nilT (lp:=[]) (sz:=2) h
 have nilf:b8 E Q (.tup [.lst [] 2, .bool false]) S→b8 E Q (.tup [.nilSlc, .bool false]) S:=fun h=>b8.nilT (lp:=[]) (sz:=2) h
 cases b with
 |true=>rw[cdT,bx h5,oD];exact a0W hQ
 |false=>
  rw[cdF,a6c,oD,cdB]
  simp only[Bool.false_eq_true,if_false]at hQ
  refine⟨fun h=> ?_,fun h=> ?_⟩
  ·rw[if_pos (by simpa using h)]at hQ
   refine B2.use ?_
   rw[a1B (a7Y _ _),oD]
   exact a0W hQ
  rw[if_neg (by simpa using h)]at hQ
  rw[a6c,oD,cdB]
  refine⟨fun h=> ?_,fun h=> ?_⟩
  ·rw[if_pos (by simpa using h)]at hQ;rw[bx h6,oD];exact a0W hQ
  rw[if_neg (by simpa using h)]at hQ
  by_cases h1:11≤op
  ·by_cases h2:op≤28
   ·rw[if_pos ⟨h1,h2⟩]at hQ
    simp[h1,h2,bx h6]
    exact a0W hQ
   ·rw[if_neg (by omega)]at hQ
    simp[h1,h2]
    by_cases h3:op≤52
    ·rw[if_pos (by omega)]at hQ
     simp[show(1:Int)≤op by omega,h3]
     exact nilq hQ
    ·rw[if_neg (by omega)]at hQ
     simp[show(1:Int)≤op by omega,h3]
     exact nilf hQ
  ·rw[if_neg (by omega)]at hQ
   simp[h1]
   by_cases h3:1≤op
   ·rw[if_pos (by omega)]at hQ
    simp[h3,show op≤52 by omega]
    exact nilq hQ
   ·rw[if_neg (by omega)]at hQ
    simp[h3]
    exact nilf hQ
theorem c2m(h5:S k5=some ⟨2,[[.int .i64 4,V1 0 4294967295]],a5⟩)(h6:S k6=some ⟨2,[[.int .i64 1,V1 1 3]],a6⟩)(hQ:b8 E Q (.tup [.lst (fR ((c0G b op).getD [])) 2, .bool (c0G b op).isSome]) S):
  P9 E w0 (b8 E Q) (.int .u8 op) (.ptr k5 0) (.ptr k6 0) (.int .u8 op) (.bool b) S:=by
 refine a5X ?_
 unfold a3j
 unfold c0G at hQ
 cases b with
 |true=>
  rw[cdT]
  refine B2.use ?_
  rw[a1B (a7Y _ _),oD]
  exact a0W hQ
 |false=>
  rw[cdF,a6c,oD,cdB]
  simp only[Bool.false_eq_true,if_false]at hQ
  refine⟨fun h=> ?_,fun h=> ?_⟩
  ·rw[if_pos (by simpa using h)]at hQ;rw[bx h6,oD,oD];exact b9o hQ
  rw[if_neg (by simpa using h)]at hQ
  simp only[a6c,oD,cdB]
  refine⟨fun h=> ?_,fun h=>⟨fun h'=> ?_,fun h'=> ?_⟩⟩
  ·rw[h];refine b8C h5 h6 ?_;simpa [h]using hQ
  ·rw[h'];refine b8C h5 h6 ?_;simpa [h,h']using hQ
  ·refine b8C h5 h6 ?_;simpa [h,h']using hQ
theorem c1d(h4:S k4=some ⟨2,[[.int .i64 2,V1 0 65535]],a4⟩)(h5:S k5=some ⟨2,[[.int .i64 4,V1 0 4294967295]],a5⟩)(h6:S k6=some ⟨2,[[.int .i64 1,V1 1 3]],a6⟩)(hQ:b8 E Q (.tup [.lst (fR ((c0f b op).getD [])) 2, .bool (c0f b op).isSome]) S):
  Q5 E w0 (b8 E Q) (.int .u8 op) (.ptr k4 0) (.ptr k5 0) (.ptr k6 0) (.int .u8 op) (.bool b) S:=by
 refine a6d ?_
 unfold a3f
 unfold c0f at hQ
 cases b with
 |true=>rw[cdT,bx h4,oD,oD];exact b9o hQ
 |false=>
  rw[cdF]
  simp only[Bool.false_eq_true,if_false]at hQ
  simp only[a6c,oD,cdB]
  refine⟨fun h=> ?_,fun h=> ?_⟩
  ·rw[h];refine c2m h5 h6 ?_;simpa [h]using hQ
  ·refine c2m h5 h6 ?_;simpa [h]using hQ
theorem c4v(h4:S k4=some ⟨2,[[.int .i64 2,V1 0 65535]],a4⟩)(h5:S k5=some ⟨2,[[.int .i64 4,V1 0 4294967295]],a5⟩)(h6:S k6=some ⟨2,[[.int .i64 1,V1 1 3]],a6⟩)(hQ:b8 E Q (.tup [.lst (fR ((b8d b op).getD [])) 2, .bool (b8d b op).isSome]) S):
  m8 E w0 (b8 E Q) (.int .u8 op) (.ptr k4 0) (.ptr k5 0) (.ptr k6 0) (.int .u8 op) (.bool b) S:=by
 refine a6G ?_
 unfold a4a
 unfold b8d at hQ
 cases b with
 |true=>rw[cdT,bx h4,oD];exact a0W hQ
 |false=>
  rw[cdF]
  simp only[Bool.false_eq_true,if_false]at hQ
  simp only[a6c,oD,cdB]
  refine⟨fun h=> ?_,fun h=> ?_⟩
  ·rw[h];refine c1d h4 h5 h6 ?_;simpa [h]using hQ
  ·refine c1d h4 h5 h6 ?_;simpa [h]using hQ
theorem b3n:a0X Try.prog E w0 a3N [.int .u8 op] (.tup [.lst (a5p op) 2, .bool (lay op).isSome]):=fun S0=>by
 refine b0F ?_
 unfold a7A
 refine B2.use ?_
 rw[a1B (a7Y _ _),oD]
 refine B2.use ?_
 rw[a1B (a7Y _ _),oD]
 intro k4 a4 n4 k5 a5 n5
 obtain⟨ne5,n5'⟩:=b5.fresh n5
 refine stP (ds:=[.int .i64 2,V1 0 65535]) (by rw[b5.set_ne _ _ _ (Ne.symm ne5)];exact b5.set_same _ _ _) (clA _) ⟨rfl,by decide,by simp⟩ fun a4=> ?_
 rw[b5.set_in _ (Ne.symm ne5)]
 refine stP (ds:=[.int .i64 4,V1 0 4294967295]) (b5.set_same _ _ _) (clA _) ⟨rfl,by decide,by simp⟩ fun a5=> ?_
 rw[b5.set_set]
 refine B2.use ?_
 rw[a1B (a7Y _ _),oD]
 intro k6 a6 n6
 refine stP (ds:=[.int .i64 1,V1 1 3]) (b5.set_same _ _ _) (clA _) ⟨rfl,by decide,by simp⟩ fun a6=> ?_
 rw[b5.set_set]
 obtain⟨ne6,n6'⟩:=b5.fresh n6
 obtain⟨ne6',n6''⟩:=b5.fresh n6'
 generalize hS:((S0.set k4 _).set k5 _).set k6 _=S
 have hle:S0.le S:=by rw[←hS];exact b5.le_set (b5.le_set (b5.le_new n4) n5') n6''
 have h6:S k6=some ⟨2,[[.int .i64 1,V1 1 3]],a6⟩:=by rw[←hS];exact b5.set_same _ _ _
 have h5:S k5=some ⟨2,[[.int .i64 4,V1 0 4294967295]],a5⟩:=by rw[←hS,b5.set_ne _ _ _ (Ne.symm ne6)];exact b5.set_same _ _ _
 have h4:S k4=some ⟨2,[[.int .i64 2,V1 0 65535]],a4⟩:=by rw[←hS,b5.set_ne _ _ _ (Ne.symm ne6'),b5.set_ne _ _ _ (Ne.symm ne5)];exact b5.set_same _ _ _
 have hQ:b8 E (fun d' S'=>d'= .tup [.lst (a5p op) 2, .bool (lay op).isSome]∧S'=S0) (.tup [.lst (a5p op) 2, .bool (lay op).isSome]) S:=b8.less hle b8.pure
 clear hS
 generalize hQ0:(fun d' S'=>d'=D.tup [.lst (a5p op) 2, .bool (lay op).isSome]∧S'=S0)=Q0 at hQ ⊢
 clear hQ0
 simp only[a6c,oD,cdB,beq_iff_eq,beq_eq_false_iff_ne,ne_eq]
 refine⟨fun h=> ?_,fun g1=>⟨fun h=> ?_,fun g2=>⟨fun h=> ?_,fun g3=> ?_⟩⟩⟩
 ·refine W3.use ?_
  rw[a1B (b4l _),oD]
  refine a0W ?_
  rw[h]at hQ;exact hQ
 ·refine W3.use ?_
  rw[a1B (b4l _),oD]
  refine a0W ?_
  rw[h]at hQ;exact hQ
 ·refine W3.use ?_
  rw[a1B (b4l _),oD]
  refine a0W ?_
  rw[h]at hQ;exact hQ
 have e:lay op=b8d (op==6||op==7||op==8||op==50||op==36||op==39||op==40||op==41||op==42||op==43||op==44||op==45) op:=by unfold lay;rw[if_neg g1,if_neg g2,if_neg g3]
 rw[show a5p op=fR ((lay op).getD []) by unfold a5p;rw[if_neg g1,if_neg g2,if_neg g3],e]at hQ
 generalize hb:(op==6||op==7||op==8||op==50||op==36||op==39||op==40||op==41||op==42||op==43||op==44||op==45)=b at hQ
 have fin:∀c:Bool,c=b→m8 E w0 (b8 E Q0) (.int .u8 op) (.ptr k4 0) (.ptr k5 0) (.ptr k6 0) (.int .u8 op) (.bool c) S:=by
  rintro c rfl
  exact c4v h4 h5 h6 hQ
 refine⟨fun h=>fin _ (by rw[←hb];simp[h]),fun h1=>⟨fun h=>fin _ (by rw[←hb];simp[h]),fun h2=>⟨fun h=>fin _ (by rw[←hb];simp[h]),fun h3=>⟨fun h=>fin _ (by rw[←hb];simp[h]),fun h4=>⟨fun h=>fin _ (by rw[←hb];simp[h]),fun h5=>⟨fun h=>fin _ (by rw[←hb];simp[h]),fun h6=>
  ⟨fun h=>fin _ (by rw[←hb];simp[h]),fun h7=>⟨fun h=>fin _ (by rw[←hb];simp[h]),fun h8=>⟨fun h=>fin _ (by rw[←hb];simp[h]),fun h9=>⟨fun h=>fin _ (by rw[←hb];simp[h]),fun h10=>⟨fun h=>fin _ (by rw[←hb];simp[h]),fun h11=>fin _ (by rw[←hb];simp[h1,h2,h3,h4,h5,h6,h7,h8,h9,h10,h11])⟩⟩⟩⟩⟩⟩⟩⟩⟩⟩⟩
end
end
section
def b0u(fv:D)(lo hi:Int):Prop:=fv=V1 lo hi∨∃w,fv=a6e w∧lo=Y2 w∧hi=Y6 w
theorem b0u.bet(lo hi:Int):b0u (V1 lo hi) lo hi:= .inl rfl
theorem b0u.fit(w:Int):b0u (a6e w) (Y2 w) (Y6 w):= .inr ⟨w,rfl,rfl,rfl⟩
theorem b0u.cells{fv:D}{lo hi:Int}(h:b0u fv lo hi):r5 fv=some [fv]:=by
 rcases h with rfl|⟨w,rfl,_⟩<;>rfl
theorem c6n:a1P Try.prog L2=true:=by kernel_rfl
theorem c6i:a1P Try.prog X3=true:=by kernel_rfl
def b7v(row:List D)(f:Fld):Prop:=∃fv,row=[.int .i64 (f.size:Int),fv]∧b0u fv f.lo f.hi
theorem c1m{op:Int}{i:Nat}{f:Fld}(h:((lay op).getD [])[i]? =some f):∃row,(a5p op)[i]? =some row∧b7v row f:=by
 unfold a5p
 by_cases h1:op=1
 ·have e:lay op=some [⟨1,Y2 1,Y6 1⟩]:=by unfold lay;rw[if_pos h1]
  rw[e]at h
  rw[if_pos h1]
  cases i with
  |zero=>cases h;exact⟨_,rfl,_,rfl, .fit 1⟩
  |succ i=>cases h
 rw[if_neg h1]
 by_cases h2:op=2
 ·have e:lay op=some [⟨4,Y2 2,Y6 2⟩]:=by unfold lay;rw[if_neg h1,if_pos h2]
  rw[e]at h
  rw[if_pos h2]
  cases i with
  |zero=>cases h;exact⟨_,rfl,_,rfl, .fit 2⟩
  |succ i=>cases h
 rw[if_neg h2]
 by_cases h3:op=3
 ·have e:lay op=some [⟨8,Y2 3,Y6 3⟩]:=by unfold lay;rw[if_neg h1,if_neg h2,if_pos h3]
  rw[e]at h
  rw[if_pos h3]
  cases i with
  |zero=>cases h;exact⟨_,rfl,_,rfl, .fit 3⟩
  |succ i=>cases h
 rw[if_neg h3]
 exact⟨_,by unfold fR;rw[List.getElem?_map,h];rfl,_,rfl, .bet _ _⟩
theorem b5b{op:Int}:(a5p op).length=((lay op).getD []).length:=by
 unfold a5p
 by_cases h1:op=1
 ·rw[if_pos h1];unfold lay;rw[if_pos h1];rfl
 rw[if_neg h1]
 by_cases h2:op=2
 ·rw[if_pos h2];unfold lay;rw[if_neg h1,if_pos h2];rfl
 rw[if_neg h2]
 by_cases h3:op=3
 ·rw[if_pos h3];unfold lay;rw[if_neg h1,if_neg h2,if_pos h3];rfl
 rw[if_neg h3,fR,List.length_map]
section
variable{E:d6}{w0:i7}{S0 S:b5}{t:D}{bs ms:List Int}
theorem b7I{fv:D}{lo hi n:Int}(h:b0u fv lo hi)(hn:I64 n){K:D→b5→Prop}(hK:K (.bool (decide (lo≤n∧n≤hi))) S):a4G Try.prog (r7 Try.prog E w0) S fv [.int .i64 n] K:=by
 rcases h with rfl|⟨w,rfl,rfl,rfl⟩
 ·simp only[V1,a4G,a6N,c6n,if_true]
  exact a8N.use hK
 ·simp only[a6e,a4G,a6N,c6i,if_true]
  exact(b3H hn).use hK
end
end
end Go.Proofs.Ytdkidgkiplcggaa.d
end
section
namespace Go.Am
section
def WkR:List (List D)→List (List D)→Prop
 | [],[]=>True
 |r::rs,q::qs=>(WkL r q∧r.length=q.length)∧WkR rs qs
 |_,_=>False
theorem WkR.length:∀ {rs qs:List (List D)},WkR rs qs→rs.length=qs.length
 | [],[],_=>rfl
 |r::rs,q::qs,h=>by rw[List.length_cons,List.length_cons,WkR.length h.2]
 | [],_::_,h=>h.elim
 |_::_,[],h=>h.elim
theorem WkR.row:∀ {rs qs:List (List D)} {sz:Nat},WkR rs qs→(∀r∈rs,r.length=sz)→∀q∈qs,q.length=sz
 | [],[],sz,_,_=>fun q hq=>by cases hq
 |r::rs,q::qs,sz,h,hr=>fun y hy=>by
  rcases List.mem_cons.1 hy with e|hy
  ·subst e;rw[←h.1.2];exact hr r List.mem_cons_self
  ·exact WkR.row h.2 (fun r hr'=>hr r (List.mem_cons_of_mem _ hr')) y hy
 | [],_::_,_,h,_=>h.elim
 |_::_,[],_,h,_=>h.elim
theorem WkR.ok{E:d6}{R:Fz}:∀ {rs qs:List (List D)} {vs:List AV},WkR rs qs→R4 E R rs vs→R4 E R qs vs
 | [],[],vs,_,h=>h
 |r::rs,q::qs,vs,w,h=>by
  simp only[R4]at h ⊢
  obtain⟨a,b,e,h1,h2⟩:=h
  exact⟨a,b,e,w.1.1.ok h1,WkR.ok w.2 h2⟩
 | [],_::_,_,w,_=>w.elim
 |_::_,[],_,w,_=>w.elim
theorem Wk.lst{rs qs:List (List D)}(w:WkR rs qs)(sz:Nat):Wk (.lst rs sz) (.lst qs sz):=fun E R v h=>by
 simp only[Rp]at h ⊢
 rcases h with ⟨rfl,rfl⟩|⟨o,j,cap,ex,z,e1,e2,e3,e4,e5⟩
 ·cases qs with
  |nil=>exact .inl ⟨rfl,rfl⟩
  |cons=>exact w.elim
 ·refine .inr ⟨o,j,cap,ex,z,by rw[←w.length];exact e1,e2,by rw[←w.length];exact e3,w.row e4, ?_⟩
  rcases e5 with rfl|⟨all,f1,f2,f3⟩
  ·cases qs with
   |nil=>exact .inl rfl
   |cons=>exact w.elim
  ·exact .inr ⟨all,f1,by rw[←w.length];exact w.ok f2,by rw[←w.length];exact f3⟩
theorem Wk.trans{a b c:D}(h:Wk a b)(h':Wk b c):Wk a c:=fun E R v x=>h' E R v (h E R v x)
theorem WkR.map{α:Type}{f g:α→List D}(h:∀a,WkL (f a) (g a)∧(f a).length=(g a).length):∀(l:List α),WkR (l.map f) (l.map g)
 | []=>trivial
 |a::l=>⟨h a,WkR.map h l⟩
inductive Lst (rows:List (List D)) (sz:Nat):D→Prop where
 |lst:Lst rows sz (.lst rows sz)
 |ext (more:List (List D)):Lst rows sz (.ext rows more sz)
section
variable{rows:List (List D)}{sz:Nat}{d:D}
theorem Lst.len(h:Lst rows sz d):j8 d=some (.int .i64 rows.length):=by cases h<;>rfl
theorem Lst.at(h:Lst rows sz d){i:Nat}{row:List D}(hr:rows[i]? =some row):m9 sz d (.int .i64 (i:Int))=some (.elt row 0):=by
 cases h
 ·exact b5F hr
 ·exact c6k hr
theorem Lst.rowsS(h:Lst rows sz d)(S:b5):Am.rowsS S sz d=some rows:=by
 cases h<;>simp[Am.rowsS,E7]
theorem Lst.cells(h:Lst rows sz d):r5 d=some [d]:=by cases h<;>rfl
end
theorem c4J{n cap:Nat}(h:n≤cap):A7 (.int .i64 (n:Int)) cap=some n:=by
 simp only[A7]
 rw[if_pos (by omega),Int.toNat_natCast]
theorem c6a{rows:List (List D)}{sz n:Nat}(h:n≤rows.length):V3 sz (.lst rows sz) none (some (.int .i64 (n:Int))) none=some (b5q (rows.take n) (rows.drop n) sz):=by
 simp only[V3,E5,b4H,a5g,b0N,if_true,Option.bind_some,c4J h,Option.map_some,List.drop_zero,Nat.sub_zero]
 rw[List.take_of_length_le (l:=rows.drop n) (by rw[List.length_drop];omega)]
theorem Grw.upd{S0 S:b5}{t:D}{rows:List (List D)}{sz k:Nat}{o o':s7}(h:Grw S0 t rows sz S)(hk:S0 k=some o'):Grw (S0.set k o) t rows sz (S.set k o):=by
 rcases h with ⟨rfl,rfl,rfl⟩|⟨l,acs,h,rfl,rfl⟩
 ·exact .inl ⟨rfl,rfl,rfl⟩
 ·have hne:l≠k:=fun e=>by rw[e,hk]at h;cases h
  refine .inr ⟨l,acs, ?_,rfl,b5.set_comm _ hne _ _⟩
  rw[b5.set_ne _ _ _ hne];exact h
theorem Grw.last{S0 S:b5}{t:D}{rows:List (List D)}{sz bytes:Nat}(h:Grw S0 t rows sz S){v:D}{news:List (List D)}(hv:rowsS S sz v=some news)(hn:news≠[])(hb:0<bytes∧(2*(rows.length+news.length)+768)*bytes≤2^47){K:D→b5→Prop}
  (hK:K (.lst (rows++news) sz) S0):s9 S sz bytes t v K:=by
 simp only[s9,hv]
 rcases h with ⟨rfl,rfl,rfl⟩|⟨k,acs,h,rfl,rfl⟩
 ·simp only[U9]
  rw[if_neg hn]
  refine⟨⟨hb.1,by simpa using hb.2⟩, .inl ?_⟩
  rw[List.take_of_length_le (Nat.le_refl _)]
  simpa using hK
 ·simp only[U9]
  rw[if_neg hn,b5.set_same]
  simp only
  rw[if_pos ⟨by trivial,by trivial,by omega⟩]
  refine⟨hb, .inl ?_⟩
  rw[b5.erase_set _ _ _ h,List.take_of_length_le (by simp)]
  simpa using hK
end
section
theorem b5.set_self{S:b5}{k:Nat}{o:s7}(h:S k=some o):S.set k o=S:=by
 funext j;unfold b5.set
 by_cases e:j=k
 ·subst e;rw[if_pos rfl,h]
 ·rw[if_neg e]
theorem b5.ne_of{S:b5}{k l:Nat}{o:s7}(h:S k=some o)(n:S l=Option.none):k≠l:=fun e=>by rw[e,n]at h;cases h
theorem b5.none_of{S S':b5}(h:S.le S'){k:Nat}(hk:S' k=Option.none):S k=Option.none:=by
 cases e:S k with
 |none=>rfl
 |some o=>rw[h _ _ e]at hk;cases hk
def I5(S:b5)(k sz:Nat)(c:List D):Prop:=∃a,S k=some ⟨sz,[c],a⟩
section
variable{S S':b5}{k l sz sz':Nat}{c c':List D}
theorem I5.new{a:List AV}:I5 (S.set k ⟨sz,[c],a⟩) k sz c:=⟨a,b5.set_same _ _ _⟩
theorem I5.set_ne(h:I5 S k sz c){o:s7}(hn:k≠l):I5 (S.set l o) k sz c:=by
 obtain⟨a,h⟩:=h;exact⟨a,by rw[b5.set_ne _ _ _ hn];exact h⟩
theorem I5.none(h:I5 S k sz c)(hn:S l=Option.none):k≠l:=by
 obtain⟨a,h⟩:=h;exact b5.ne_of h hn
theorem I5.set(h:I5 S k sz c){o:s7}(hn:S l=Option.none):I5 (S.set l o) k sz c:=h.set_ne (h.none hn)
theorem I5.of(h:I5 S k sz c)(e:S' k=S k):I5 S' k sz c:=by
 obtain⟨a,h⟩:=h;exact⟨a,by rw[e];exact h⟩
theorem I5.le(h:I5 S k sz c)(hl:S.le S'):I5 S' k sz c:=by
 obtain⟨a,h⟩:=h;exact⟨a,hl _ _ h⟩
theorem I5.ne(h:I5 S k sz c)(h':I5 S l sz' c')(hs:sz≠sz'):k≠l:=fun e=>by
 obtain⟨a,h⟩:=h;obtain⟨b,h'⟩:=h';subst e;rw[h]at h';cases h';exact hs rfl
theorem I5.there(h:I5 S k sz c):S k≠Option.none:=by
 obtain⟨a,h⟩:=h;rw[h];simp
theorem I5.ld(h:I5 S k sz c)(i:Nat):c9 S (.ptr k i)=c[i]? :=by obtain⟨a,h⟩:=h;exact ldP h
theorem I5.la(h:I5 S k sz c){i n:Nat}(hn:0<n∧i+n≤c.length):s0 S n (.ptr k i)=some (.agg ((c.drop i).take n)):=by obtain⟨a,h⟩:=h;exact laP h hn
theorem I5.all(h:I5 S k sz c){n:Nat}(hn:0<n)(hl:n=c.length):s0 S n (.ptr k 0)=Option.some (.agg c):=by
 rw[h.la ⟨hn,by omega⟩,List.drop_zero,List.take_of_length_le (by omega)]
theorem I5.st(h:I5 S k sz c){i n:Nat}{v:D}{ds:List D}{K:D→b5→Prop}(hv:r5 v=Option.some ds)(hn:ds.length=n∧0<n∧i+n≤c.length)(hK:∀a,K b6 (S.set k ⟨sz,[n8 c i ds],a⟩)):j1 S n (.ptr k i) v K:=by
 obtain⟨a,h⟩:=h;exact stP h hv hn hK
end
def X0(S0:b5)(av:List Nat)(t:D)(rows:List (List D))(sz:Nat)(S:b5):Prop:=
 (t= .nilSlc∧rows=[])∨∃k acs,S0 k=Option.none∧k ∉ av∧t= .raw k 0 rows.length rows.length false sz∧S k=some ⟨sz,rows,acs⟩
section
variable{S0 S:b5}{av:List Nat}{t:D}{rows:List (List D)}{sz:Nat}
theorem X0.nil:X0 S0 av .nilSlc [] sz S:= .inl ⟨rfl,rfl⟩
theorem X0.of(h:X0 S0 av t rows sz S){S':b5}(e:∀k o,k ∉ av→S k=some o→S' k=some o):X0 S0 av t rows sz S':=by
 rcases h with h|⟨k,acs,h0,h1,h2,h3⟩
 ·exact .inl h
 ·exact .inr ⟨k,acs,h0,h1,h2,e _ _ h1 h3⟩
theorem X0.set(h:X0 S0 av t rows sz S){l:Nat}{o:s7}(hl:l∈av∨S l=Option.none):X0 S0 av t rows sz (S.set l o):=h.of fun k o' hk e=>by
 rw[b5.set_ne]
 ·exact e
 ·rintro rfl
  rcases hl with hl|hl
  ·exact hk hl
  ·rw[hl]at e;cases e
theorem X0.le(h:X0 S0 av t rows sz S){S':b5}(hl:S.le S'):X0 S0 av t rows sz S':=h.of fun k o _ e=>hl _ _ e
theorem X0.push(h:X0 S0 av t rows sz S)(hle:S0.le S)(hav:∀j∈av,S j≠Option.none){bytes:Nat}{v:D}{news:List (List D)}(hv:rowsS S sz v=some news)(hn:news≠[])(hb:0<bytes∧(2*(rows.length+news.length)+768)*bytes≤2^47){K:D→b5→Prop}
  (hK:∀t' S',S0.le S'→(∀j∈av,S' j=S j)→X0 S0 av t' (rows++news) sz S'→K t' S'):s9 S sz bytes t v K:=by
 simp only[s9,hv]
 rcases h with ⟨rfl,rfl⟩|⟨k,acs,h0,h1,rfl,h3⟩
 ·simp only[U9]
  rw[if_neg hn]
  refine⟨⟨hb.1,by simpa using hb.2⟩, .inr fun k acs hk=>hK _ _ (b5.le_set hle (b5.none_of hle hk)) (fun j hj=>b5.set_ne _ _ _ fun e=>hav j hj (by rw[e];exact hk)) (.inr ⟨k,acs,b5.none_of hle hk,fun hm=>hav k hm hk,by simp,by simpa using b5.set_same _ _ _⟩)⟩
 ·simp only[U9]
  rw[if_neg hn,h3]
  simp only
  rw[if_pos ⟨by trivial,by trivial,by omega⟩]
  have hke:∀j∈av,(S.erase k) j=S j:=fun j hj=>b5.erase_ne _ _ fun e=>h1 (e▸hj)
  refine⟨hb, .inr fun k' acs' hk'=> ?_⟩
  have hle':=b5.le_erase hle h0
  refine hK _ _ (b5.le_set hle' (b5.none_of hle' hk')) (fun j hj=> ?_) (.inr ⟨k',acs',b5.none_of hle' hk',fun hm=>hav k' hm (by rw[←hke k' hm];exact hk'),by simp, ?_⟩)
  ·rw[b5.set_ne,hke j hj]
   rintro rfl
   exact hav j hj (by rw[←hke j hj];exact hk')
  ·rw[b5.set_same];simp
theorem X0.grw(h:X0 S0 av t rows sz S)(hle:S0.le S):∃S',S'.le S∧Grw S0 t rows sz S':=by
 rcases h with ⟨rfl,rfl⟩|⟨k,acs,h0,h1,rfl,h3⟩
 ·exact⟨S0,hle, .inl ⟨rfl,rfl,rfl⟩⟩
 ·refine⟨S0.set k ⟨sz,rows,acs⟩,fun j o e=> ?_, .inr ⟨k,acs,h0,rfl,rfl⟩⟩
  unfold b5.set at e
  split at e
  ·rename_i hj;subst hj;cases e;exact h3
  ·exact hle _ _ e
theorem X0.len(h:X0 S0 av t rows sz S):j8 t=some (.int .i64 rows.length):=by
 rcases h with ⟨rfl,rfl⟩|⟨k,acs,_,_,rfl,_⟩<;>rfl
theorem X0.cells(h:X0 S0 av t rows sz S):r5 t=some [t]:=by
 rcases h with ⟨rfl,rfl⟩|⟨k,acs,_,_,rfl,_⟩<;>rfl
end
theorem r7.fin{P:Program}{E:d6}{w0:i7}{f:FuncId}{ds:List D}{S:b5}{Q Q':D→b5→Prop}(h:r7 P E w0 f ds S Q)(hq:∀d S',Q d S'→b8 E Q' d S'):r7 P E w0 f ds S Q':=fun R H avs hF hC ha=>by
 refine b1D _ _ _ _ _ (h R H avs hF hC ha) fun v H' ⟨F',R',S',d,a,b,c,e⟩=> ?_
 obtain⟨R2,S2,d2,a2,b2,c2,e2⟩:=hq _ _ e R' H' v b c
 exact⟨F',R2,S2,d2,Fz.le_trans a a2,b2,c2,e2⟩
end
end Go.Am
end
section
open Go.Proofs Go Go.Am Go.Op
namespace Go.Proofs.Ytdkidgkiplcggaa.d
section
def Z5(y:Int×Int):List D:=[.int .i64 y.1, .int .i64 y.2]
def b2i(arms:List (Int×Int)):D:= .lst (arms.map Z5) 2
def inC(y:In):List D:=[.int .u8 y.op, .int .i64 y.a, .int .i64 y.b,b2i y.arms]
def inD(y:In):D:= .agg (inC y)
section
variable{E:d6}{w0:i7}{S0 S:b5}{t:D}{bs ms:List Int}
@[simp] theorem c2l(arms:List (Int×Int)):j8 (b2i arms)=some (.int .i64 arms.length):=by simp[b2i]
theorem c2S{arms:List (Int×Int)}{i:Nat}{y:Int×Int}(h:arms[i]? =some y):m9 2 (b2i arms) (.int .i64 (i:Int))=some (.elt (Z5 y) 0):=b5F (by rw[List.getElem?_map,h];rfl)
end
end
section
theorem b7v.load{row:List D}{f:Fld}(h:b7v row f):row.length=2:=by obtain⟨fv,rfl,_⟩:=h;rfl
section
variable{E:d6}{w0:i7}{S0 S:b5}{t:D}{bs:List Int}{y:In}
end
end
section
@[simp] theorem c6W(row:List D)(rows:List (List D))(sz:Nat):m9 sz (.lst (row::rows) sz) (.int .i64 0)=some (.elt row 0):=b5F (i:=0) rfl
@[simp] theorem c6U(a row:List D)(rows:List (List D))(sz:Nat):m9 sz (.lst (a::row::rows) sz) (.int .i64 1)=some (.elt row 0):=b5F (i:=1) rfl
theorem c5e(a b:Int):(a==b)=decide (a=b):=by by_cases h:a=b<;>simp[h]
end
end Go.Proofs.Ytdkidgkiplcggaa.d
end
