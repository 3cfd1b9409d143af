/-
  BlocksTileSaid: part Nat of its proof.
-/
import Derived.Test.YtdkidgkiplcggaaNas
import Derived.Test.YtdkidgkiplcggaaNar
import Derived.Test.YtdkidgkiplcggaaRows
import Derived.KernelRfl
set_option linter.unusedVariables false
set_option linter.unusedSimpArgs false
set_option maxRecDepth 100000
section
namespace Go.Am
mutual
def frz(k:Nat)(o:s9):D→D
 | .ptr j i=>if j=k then(match o.rows with
  | [cs]=> .elt cs i
  |_=> .any) else .ptr j i
 | .rel j r i sz=>if j=k then(match o.rows[r]? with
  |some row=>if o.sz=sz then .elt row i else .any
  |none=> .any) else .rel j r i sz
 | .raw j i len cap ex sz=>if j=k then(if o.sz=sz∧i+len≤o.rows.length∧len≤cap then .lst ((o.rows.drop i).take len) sz else .any) else .raw j i len cap ex sz
 | .fn f a b=> .fn f (W5 k o a) (W5 k o b)
 | .ifc t v=> .ifc t (frz k o v)
 | .agg cs=> .agg (W5 k o cs)
 | .tup ds=> .tup (W5 k o ds)
 |d=>d
def W5(k:Nat)(o:s9):List D→List D
 | []=>[]
 |d::ds=>frz k o d::W5 k o ds
end
section
variable{P:Program}{E:d6}{w0:i9}{R:Fz}{S:b4}{H:AHeap}
def b8t(o:s9):Prop:=o.sz<E8∨∃cs,o.rows=[cs]
mutual
theorem b5B(hC:o5 E R S H){k:Nat}{o:s9}(hk:S k=some o){R':Fz}(hle:R.le R')(hR:b8t o→R' k=some o.acs):∀ {d:D} {v:AV},Rp E R d v→Rp E R' (frz k o d) v
 | .any,v,_=>by simp only[frz,Rp]
 | .bool b,v,h=>by simp only[frz,Rp]at*;exact h
 | .int j n,v,h=>by simp only[frz,Rp]at*;exact h
 | .str s,v,h=>by simp only[frz,Rp]at*;exact h
 | .nilPtr,v,h=>by simp only[frz,Rp]at*;exact h
 | .nilSlc,v,h=>by simp only[frz,Rp]at*;exact h
 | .nilMap,v,h=>by simp only[frz,Rp]at*;exact h
 | .nilFn,v,h=>by simp only[frz,Rp]at*;exact h
 | .nilIfc,v,h=>by simp only[frz,Rp]at*;exact h
 | .mp j,v,h=>by simp only[frz,Rp]at*;exact h
 | .tip j rows sz,v,h=>by
  have:=Rp.le hle _ _ h
  simp only[frz];exact this
 | .elt row i,v,h=>by
  have:=Rp.le hle _ _ h
  simp only[frz];exact this
 | .lst rows sz,v,h=>by
  have:=Rp.le hle _ _ h
  simp only[frz];exact this
 | .ext rows more sz,v,h=>by
  have:=Rp.le hle _ _ h
  simp only[frz];exact this
 | .ptr j i,v,h=>by
  simp only[frz]
  split
  ·rename_i e
   subst e
   split
   ·rename_i cs hcs
    have hc:b8t o:= .inr ⟨_,hcs⟩
    obtain⟨h1,⟨pre,h2⟩,h3,h4,h5⟩:=hC.cells hk hc
    simp only[Rp]at h ⊢
    subst h
    rw[hcs,List.flatten_singleton]at h5
    have e:o.acs.take cs.length=o.acs:=List.take_of_length_le (by rw[h5.length];exact Nat.le_refl _)
    refine⟨.new j,0,o.acs,by rw[Nat.zero_add], ?_, ?_, ?_⟩
    ·exact hR hc
    ·rw[List.drop_zero,e];exact o7.le hle _ _ h5
    ·rw[List.drop_zero,e];exact h3
   ·exact a4X
  ·simp only[Rp]at*;exact h
 | .rel j r i sz,v,h=>by
  simp only[frz]
  split
  ·rename_i e
   subst e
   split
   ·rename_i row hrow
    split
    ·rename_i hsz
     simp only[Rp]at h ⊢
     obtain⟨hzm,rfl⟩:=h
     have hc:b8t o:= .inl (by rw[hsz];exact hzm)
     obtain⟨h1,⟨pre,h2⟩,h3,h4,h5⟩:=hC.cells hk hc
     have hl:row.length=sz:=by rw[h4 row (List.mem_of_getElem? hrow),hsz]
     refine⟨.new j,r*sz,o.acs,rfl, ?_, ?_,D7 (O4 h3 _) _⟩
     ·exact hR hc
     ·have:=(h5.drop (r*sz)).take row.length
      rw[←hsz]at this hl ⊢
      rw[hl,a4A h4 hrow]at this
      rw[hl]
      exact o7.le hle _ _ this
    ·exact a4X
   ·exact a4X
  ·simp only[Rp]at*;exact h
 | .raw j i len cap ex sz,v,h=>by
  simp only[frz]
  split
  ·rename_i e
   subst e
   split
   ·rename_i hc
    have hzm:sz<E8:=by simp only[Rp]at h;exact h.1
    have hce:b8t o:= .inl (by rw[hc.1];exact hzm)
    refine Rp.le (R:=fun i=>if i=j then some o.acs else R i) (fun i cs e=> ?_) _ _ (a5K hC hk h hc.1 hc.2.1 hc.2.2)
    replace e:(if i=j then some o.acs else R i)=some cs:=e
    split at e
    ·rename_i hi;rw[hi, ←e];exact hR hce
    ·exact hle _ _ e
   ·exact a4X
  ·simp only[Rp]at*;exact h
 | .fn f a b,v,h=>by
  simp only[frz,Rp]at*
  obtain⟨a',b',e1,e2,e3⟩:=h
  exact⟨a',b',e1,a5E hC hk hle hR e2,a5E hC hk hle hR e3⟩
 | .ifc t d,v,h=>by
  simp only[frz,Rp]at*
  obtain⟨v',e1,e2⟩:=h
  exact⟨v',e1,b5B hC hk hle hR e2⟩
 | .agg cs,v,h=>by
  simp only[frz,Rp]at*
  obtain⟨vs,e1,e2,e3⟩:=h
  exact⟨vs,e1,a5E hC hk hle hR e2,e3⟩
 | .tup ds,v,h=>by
  simp only[frz,Rp]at*
  obtain⟨vs,e1,e2⟩:=h
  exact⟨vs,e1,a5E hC hk hle hR e2⟩
theorem a5E(hC:o5 E R S H){k:Nat}{o:s9}(hk:S k=some o){R':Fz}(hle:R.le R')(hR:b8t o→R' k=some o.acs):∀ {ds:List D} {vs:List AV},o7 E R ds vs→o7 E R' (W5 k o ds) vs
 | [],vs,h=>by simp only[W5,o7]at*;exact h
 |d::ds,vs,h=>by
  simp only[W5,o7]at*
  obtain⟨v,ws,e1,e2,e3⟩:=h
  exact⟨v,ws,e1,b5B hC hk hle hR e2,a5E hC hk hle hR e3⟩
end
theorem b9.frz{Q:D→b4→Prop}{d:D}{k:Nat}{o:s9}(hk:S k=Option.none)(h:b9 E Q (Am.frz k o d) S):b9 E Q d (S.set k o):=fun R H v hC hd=>by
 by_cases hc:b8t o
 ·obtain⟨h1,h2⟩:=hC.freeze (b4.set_same S k o) hc
  rw[b4.erase_set _ _ _ hk]at h1
  obtain⟨R',S',d',a,b,c,e⟩:=h _ H v h1 (b5B hC (b4.set_same S k o) h2 (fun _=>if_pos rfl) hd)
  exact⟨R',S',d',Fz.le_trans h2 a,b,c,e⟩
 ·have h1:=hC.less (S':=S) fun j x e=>by
   rw[b4.set_ne]
   ·exact e
   ·rintro rfl;rw[hk]at e;cases e
  exact h R H v h1 (b5B hC (b4.set_same S k o) (Fz.le_refl R) (fun h=>absurd h hc) hd)
def Wk(d d':D):Prop:=∀(E:d6) (R:Fz) (v:AV),Rp E R d v→Rp E R d' v
def WkL:List D→List D→Prop
 | [],[]=>True
 |d::ds,e::es=>Wk d e∧WkL ds es
 |_,_=>False
theorem Wk.refl(d:D):Wk d d:=fun _ _ _ h=>h
theorem Wk.any(d:D):Wk d .any:=fun _ _ _ _=>a4X
theorem Wk.nil(sz:Nat):Wk .nilSlc (.lst [] sz):=fun E R v h=>by simp only[Rp]at h ⊢;exact .inl ⟨by trivial,h⟩
theorem Wk.ext(rows more:List (List D))(sz:Nat):Wk (.ext rows more sz) (.lst rows sz):=fun E R v h=>by
 simp only[Rp]at h ⊢
 obtain⟨o,j,cap,ex,z,all,e1,e2,e3,e4,e5,e6,e7,e8,e9⟩:=h
 refine .inr ⟨o,j,cap,ex,z,e1,e2,by omega,e4, ?_⟩
 rcases e6 with e6|⟨e6,_⟩
 rotate_left
 ·exact .inl e6
 refine .inr ⟨all,e6,e7, ?_⟩
 have:=D7 e9 (rows.length*sz)
 rw[List.take_take,Nat.min_eq_left (Nat.mul_le_mul_right _ (by omega))]at this
 exact this
theorem DF.split{f:FuncId}{sz:Nat}{pre post:List D}{S:b4}{Q:D→b4→Prop}(h1:s4 P E w0 f (pre++ .nilSlc::post) S Q)(h2:s4 P E w0 f (pre++ .ext [] [] sz::post) S Q):s4 P E w0 f (pre++ .lst [] sz::post) S Q:=fun R H avs hF hC ha=>by
 obtain⟨v1,v2,rfl,g1,g2⟩:=a0X ha
 simp only[o7]at g2
 obtain⟨w,ws,rfl,g3,g4⟩:=g2
 simp only[Rp]at g3
 rcases g3 with ⟨_,rfl⟩|⟨o,j,cap,ex,z,rfl,f1,f2,_,_⟩
 ·exact h1 R H _ hF hC (g1.append (l7 (by simp only[Rp]) g4))
 ·refine h2 R H _ hF hC (g1.append (l7 ?_ g4))
  simp only[Rp]
  exact⟨o,j,cap,ex,z,[],rfl,f1,by simp,by simp,by simp,by simp,by simp[R6],by simp[R6],by simp⟩
theorem WkL.refl:∀ds:List D,WkL ds ds
 | []=>trivial
 |d::ds=>⟨Wk.refl d,WkL.refl ds⟩
theorem WkL.ok:∀ {ds es:List D},WkL ds es→∀ {E:d6} {R:Fz} {vs:List AV},o7 E R ds vs→o7 E R es vs
 | [],[],_,E,R,vs,h=>h
 |d::ds,e::es,w,E,R,vs,h=>by
  simp only[o7]at h ⊢
  obtain⟨v,ws,e1,e2,e3⟩:=h
  exact⟨v,ws,e1,w.1 _ _ _ e2,WkL.ok w.2 e3⟩
 | [],_::_,w,_,_,_,_=>w.elim
 |_::_,[],w,_,_,_,_=>w.elim
theorem Wk.agg{ds es:List D}(w:WkL ds es):Wk (.agg ds) (.agg es):=fun E R v h=>by
 simp only[Rp]at h ⊢
 obtain⟨vs,e1,e2,e3⟩:=h
 exact⟨vs,e1,w.ok e2,e3⟩
theorem Wk.tup{ds es:List D}(w:WkL ds es):Wk (.tup ds) (.tup es):=fun E R v h=>by
 simp only[Rp]at h ⊢
 obtain⟨vs,e1,e2⟩:=h
 exact⟨vs,e1,w.ok e2⟩
theorem b9.weak{Q:D→b4→Prop}{d d':D}(w:Wk d d')(h:b9 E Q d' S):b9 E Q d S:=fun R H v hC hd=>h R H v hC (w _ _ _ hd)
theorem DF.weak{f:FuncId}{ds es:List D}{Q:D→b4→Prop}(w:WkL ds es)(h:s4 P E w0 f es S Q):s4 P E w0 f ds S Q:=fun R H avs hF hC ha=>h R H avs hF hC (w.ok ha)
theorem b9.drop{Q:D→b4→Prop}{d:D}{k:Nat}{o:s9}(hk:S k=Option.none)(h:b9 E Q d S):b9 E Q d (S.set k o):=b9.less (b4.le_new hk) h
theorem b9.pure{d:D}:b9 E (fun d' S'=>d'=d∧S'=S) d S:=b9.here ⟨rfl,rfl⟩
theorem b8Q{k i len cap sz:Nat}{ex:Bool}{rows:List (List D)}{acs:List AV}(h:i+len≤rows.length)(hc:len≤cap):Am.frz k ⟨sz,rows,acs⟩ (.raw k i len cap ex sz)= .lst ((rows.drop i).take len) sz:=by
 simp only[Am.frz,if_true];rw[if_pos ⟨by trivial,h,hc⟩]
end
end Go.Am
end
section
open Go.Proofs Go Go.Am Go.Op
namespace Go.Proofs.Ytdkidgkiplcggaa.d
section
section
variable{E:d6}{w0:i9}
theorem b4r{w:Int}:a0A Try.prog E w0 a4Y [.int .u8 w] (.int .i64 (b7n w)):=fun S=>by
 refine b0V ?_
 unfold a9O b7n
 simp only[a2B,oD,cdB,beq_iff_eq,beq_eq_false_iff_ne,ne_eq]
 refine⟨fun h=> ?_,fun h1=>⟨fun h=> ?_,fun h2=>⟨fun h=> ?_,fun h3=> ?_⟩⟩⟩<;>simp only[*,if_true,if_false]<;>exact b9.pure
theorem b4s{w n:Int}:a0A Try.prog E w0 a5n [.int .u8 w, .int .i64 n] (.int .i64 (b3F w n)):=fun S=>by
 refine b2m ?_
 unfold a9H b3F
 simp only[a2B,oD,cdB,beq_iff_eq,beq_eq_false_iff_ne,ne_eq,cvI]
 refine⟨fun h=> ?_,fun h1=>⟨fun h=> ?_,fun h2=>⟨fun h=> ?_,fun h3=> ?_⟩⟩⟩<;>simp only[*,if_true,if_false]<;>exact b9.pure
theorem c3c(n:Int):IntKind.i8.wrap n=if 128≤n % 256 then n % 256 - 256 else n % 256:=by
 simp only[IntKind.wrap,IntKind.bits,IntKind.signed];simp
theorem c0I(n:Int):IntKind.i32.wrap n=if 2147483648≤n % 4294967296 then n % 4294967296 - 4294967296 else n % 4294967296:=by
 simp only[IntKind.wrap,IntKind.bits,IntKind.signed];simp
theorem c1y{w n:Int}(hn:I64 n):(0<b7n w∧b3F w n=n)↔(Y4 w≤n∧n≤Y2 w):=by
 obtain⟨h0,h1⟩:=hn
 unfold b7n b3F Y4 Y2
 by_cases w1:w=1
 ·simp only[if_pos w1]
  rw[c3c,g9 (by split<;>omega) (by split<;>omega)]
  split<;>constructor<;>omega
 simp only[if_neg w1]
 by_cases w2:w=2
 ·simp only[if_pos w2]
  rw[c0I,g9 (by split<;>omega) (by split<;>omega)]
  split<;>constructor<;>omega
 simp only[if_neg w2]
 by_cases w3:w=3
 ·simp only[if_pos w3];exact⟨fun _=>⟨h0,h1⟩,fun _=>⟨by decide,by trivial⟩⟩
 simp only[if_neg w3];constructor<;>omega
theorem b5e{w n:Int}(hn:I64 n):a0A Try.prog E w0 a5a [.int .u8 w, .int .i64 n] (.bool (decide (Y4 w≤n∧n≤Y2 w))):=fun S=>by
 refine b2o ?_
 unfold a9B
 refine b4r.use ?_
 have hi:=c1y (w:=w) hn
 by_cases hb:b7n w>0
 ·simp[hb]
  refine b4s.use ?_
  have e:(b3F w n==n)=decide (Y4 w≤n∧n≤Y2 w):=by
   by_cases hw:b3F w n=n
   ·rw[decide_eq_true (hi.1 ⟨hb,hw⟩),hw];simp
   ·rw[decide_eq_false (fun h=>hw (hi.2 h).2)];simpa using hw
  simp[e]
  exact b9.pure
 ·have e:decide (Y4 w≤n∧n≤Y2 w)=false:=decide_eq_false fun h=>hb (hi.2 h).1
  rw[e]
  simp[hb]
  exact b9.pure
def U8(lo hi:Int):D:= .fn (.func L0) [] [.elt [.int .i64 lo] 0, .elt [.int .i64 hi] 0]
def a5Y(w:Int):D:= .fn (.func X4) [] [.elt [.int .u8 w] 0]
theorem B2{lo hi:Int}:a0A Try.prog E w0 j5 [.int .i64 lo, .int .i64 hi] (U8 lo hi):=fun S=>by
 refine a9k ?_
 unfold a6s
 simp only[clI,oD]
 intro k acs hk k2 acs2 hk2
 obtain⟨hne,hk20⟩:=b4.fresh hk2
 refine b9.frz hk2 (b9.frz hk ?_)
 simp only[Am.frz,W5,if_true,if_neg hne,if_neg (Ne.symm hne)]
 exact b9.pure
theorem W3{w:Int}:a0A Try.prog E w0 z8 [.int .u8 w] (a5Y w):=fun S=>by
 refine b3l ?_
 unfold b0Y
 simp only[clI,oD]
 intro k acs hk
 refine b9.frz hk ?_
 simp only[Am.frz,W5,if_true]
 exact b9.pure
theorem a9j{lo hi n:Int}:a0A Try.prog E w0 L0 [.int .i64 n, .elt [.int .i64 lo] 0, .elt [.int .i64 hi] 0] (.bool (decide (lo≤n∧n≤hi))):=fun S=>by
 refine a6V ?_
 unfold a4i
 by_cases h:lo≤n<;>simp[h]<;>exact b9.pure
theorem b3k{w n:Int}(hn:I64 n):a0A Try.prog E w0 X4 [.int .i64 n, .elt [.int .u8 w] 0] (.bool (decide (Y4 w≤n∧n≤Y2 w))):=fun S=>by
 refine b0G ?_
 unfold a7J
 simp only[lsE,List.getElem?_cons_zero,oD]
 exact(b5e hn).use b9.pure
end
end
section
def bD(bs:List Int):D:= .lst (W6 (bs.map (D.int .u8))) 1
theorem c1L{bs:List Int}{i:Nat}{b:Int}(h:bs[i]? =some b):m9 1 (bD bs) (.int .i64 (i:Int))=some (.elt [.int .u8 b] 0):=
 b4E (b6j (by rw[List.getElem?_map,h];rfl))
@[simp] theorem a9n(bs:List Int):j9 (bD bs)=some (.int .i64 bs.length):=by simp[bD]
@[simp] theorem c5p(S:b4)(bs:List Int):rowsS S 1 (bD bs)=some (W6 (bs.map (D.int .u8))):=by simp[bD,rowsS,F6]
theorem b5N{a:Nat}(h:a<2^64):IntKind.u64.wrap (a:Int)=a:=by rw[c1T];omega
theorem a9K{w a:Nat}:(BitVec.ofInt w (a:Int)).toNat=a % 2^w:=by simp
theorem c3B{a b:Nat}(ha:a<2^64)(hb:b<2^64):d4 .or (.int .u64 (a:Int)) (.int .u64 (b:Int))=some (.int .u64 ((a ||| b:Nat):Int)):=by
 rw[c5U]
 show some (D.int .u64 (IntKind.u64.wrap ((BitVec.ofInt 64 (a:Int) ||| BitVec.ofInt 64 (b:Int)).toNat:Int)))=_
 rw[BitVec.toNat_or,a9K,a9K,Nat.mod_eq_of_lt ha,Nat.mod_eq_of_lt hb,b5N (Nat.or_lt_two_pow ha hb)]
theorem c3a{a i:Nat}(hi:i≤64)(h:a*2^i<2^64):d4 .shl (.int .u64 (a:Int)) (.int .i64 (i:Int))=some (.int .u64 ((a*2^i:Nat):Int)):=by
 rw[c3t _ _ _ _ (by omega),Int.toNat_natCast,show IntKind.u64.bits=64 from rfl,Nat.min_eq_left hi]
 have e:(a:Int)*2^i=((a*2^i:Nat):Int):=by simp
 rw[e,b5N h]
theorem c4z{a b i:Nat}(h:a<2^i):a ||| (b*2^i)=a+b*2^i:=by
 have:=Nat.two_pow_add_eq_or_of_lt h b
 rw[Nat.or_comm,Nat.mul_comm b, ←this,Nat.add_comm]
section
variable{E:d6}{w0:i9}
theorem b5J{bs:List Int}(hb:∀b∈bs,I2 b)(hl:bs.length<2^60){p s:Nat}(hp:p≤bs.length)(h1:1≤s)(h8:s≤8):a0A Try.prog E w0 a4x [bD bs, .int .i64 (p:Int), .int .i64 (s:Int)]
  (if bs.length<p+s then .tup [.int .u64 0, .int .i64 0, .int .i64 10]else .tup [.int .u64 (leN ((bs.drop p).take s):Nat), .int .i64 ((p+s:Nat):Int), .int .i64 0]):=fun S=>by
 refine b1R ?_
 unfold a9D
 have c1:decide ((s:Int)<1)=false:=decide_eq_false (by omega)
 have c2:decide ((s:Int)>8)=false:=decide_eq_false (by omega)
 have c3:decide ((p:Int)<0)=false:=decide_eq_false (by omega)
 have c4:decide ((p:Int)>bs.length)=false:=decide_eq_false (by omega)
 simp only[a2X,b0v,oD,c1,c2,c3,cdF,a9n,c4]
 unfold U1
 simp only[cdF,a9n,oD,a2n,b0v]
 rw[g9 (by omega) (by omega),cdI]
 refine⟨fun hs=> ?_,fun hs=> ?_⟩
 ·rw[if_pos (by omega)];exact b9.pure
 rw[if_neg (by omega)]
 refine a9u (I:=fun n x0 x1 x2 x9 x29 x30 S'=>S'=S∧x0=bD bs∧x1= .int .i64 (p:Int)∧x2= .int .i64 (s:Int)∧x29= .int .i64 (s:Int)∧∃i:Nat,x30= .int .i64 (i:Int)∧i+n=s∧x9= .int .u64 ((leN ((bs.drop p).take i):Nat):Int)) ?_ (n:=s)
  ⟨rfl,rfl,rfl,rfl,rfl,0,rfl,by omega,rfl⟩
 rintro n _ _ _ _ _ _ _ ⟨rfl,rfl,rfl,rfl,rfl,i,rfl,hi,rfl⟩
 unfold a2D
 rw[a2X,oD,cdI]
 refine⟨fun hlt=> ?_,fun hge=> ?_⟩
 ·have hlt2:p+i<bs.length:=by omega
  obtain⟨y,hy⟩:∃y,y=bs[p+i]:=⟨_,rfl⟩
  have hj:bs[p+i]? =some y:=by rw[List.getElem?_eq_getElem hlt2,hy]
  obtain⟨b0,b1⟩:=hb y (by rw[hy];exact List.getElem_mem _)
  obtain⟨xn,hxn⟩:∃xn:Nat,y=(xn:Int):=⟨y.toNat,by omega⟩
  have hbs:∀b∈(bs.drop p).take i,I2 b:=fun b hb'=>hb b (List.mem_of_mem_drop (List.mem_of_mem_take hb'))
  have hlen:((bs.drop p).take i).length=i:=by rw[List.length_take,List.length_drop];omega
  have e3:=b2H hbs
  rw[hlen]at e3
  have htk:(bs.drop p).take (i+1)=(bs.drop p).take i++[y]:=by
   rw[List.take_add_one,List.getElem?_drop,hj];rfl
  have hsn:=b7q ((bs.drop p).take i) y
  rw[←htk,hlen]at hsn
  have e4:=b2H (l:=(bs.drop p).take (i+1)) fun b hb'=>hb b (List.mem_of_mem_drop (List.mem_of_mem_take hb'))
  rw[show((bs.drop p).take (i+1)).length=i+1 by rw[List.length_take,List.length_drop];omega]at e4
  have h3:2^(8*(i+1))≤2^64:=Nat.pow_le_pow_right (by decide) (by omega)
  have h4:2^(8*i)≤2^64:=Nat.pow_le_pow_right (by decide) (by omega)
  have hxt:y.toNat=xn:=by omega
  rw[hxt]at hsn
  rw[K9,oD,g9 (by omega) (by omega),show(p:Int)+(i:Int)=((p+i:Nat):Int) by omega,c1L hj,oD,lsE,List.getElem?_cons_zero,oD,cvI,oD,hxn,b5N (by omega),c3w,oD,g9 (by omega) (by omega),
   show 8*(i:Int)=((8*i:Nat):Int) by omega,c3a (by omega) (by omega),oD,c3B (by omega) (by omega),oD,c4z e3,K9,oD,g9 (by omega) (by omega)]
  exact⟨n - 1,by omega,rfl,rfl,rfl,rfl,rfl,i+1,by simp,by omega,by simp only[hsn]⟩
 ·obtain rfl:i=s:=by omega
  rw[K9,oD,g9 (by omega) (by omega),show(p:Int)+(i:Int)=((p+i:Nat):Int) by omega]
  exact b9.pure
end
end
end Go.Proofs.Ytdkidgkiplcggaa.d
end
section
open Go.Proofs Go Go.Am
namespace Go.Proofs.Ytdkidgkiplcggaa.d
def C3:List (Nat×List Nat):=[]
def C1:List (Nat×List Nat):=[(89,[0,4,5,6,13,29]),(101,[0,4,5,6,13,44]),(113,[0,5,6,13,50]),(137,[0,5,6,13,61])]
def C4:List (Nat×Arr):=[]
noncomputable def a9f:Code:=(i5 [1,1,1,0,1,0,1,1,1,1,1,1,1,1,1,1,1,1,1,1,1] (Try.f60.body.getD .skip))
def a8h(E:d6)(w0:i9)(Q:D→b4→Prop):j6→List D→b4→Prop:=
 (s7 0 (X9 Try.prog E w0 C3 C1 C4 (i5 [1,1,1,1] (Try.f60.body.getD .skip)) (P2 Try.prog Try.f60 Q)))
def a3f(E:d6)(w0:i9)(Q:D→b4→Prop)(x0 x5 x6 x13 x61:D)(S:b4):Prop:=
 d9 x61
 (a8 (r9 S 2 x5) fun v56=>
 K5 S 2 (z6 2 (List.replicate 1 [(.int .i64 0), .nilFn]) [(0,v56)]) 1 fun v57 S58=>
 Q (.tup [v57,(.bool true)]) S58)
 (a8 (d4 .eql x13 (.int .u8 52)) fun v59=>
 d9 v59
 (s4 Try.prog E w0 j5 [(.int .i64 0),(.int .i64 255)] S fun v60 S61=>
 a8 (D6 (r8 [(.int .i64 0), .nilFn] [(0,1,(.int .i64 1)),(1,1,v60)])) fun v62=>
 K5 S61 2 (z6 2 (List.replicate 1 [(.int .i64 0), .nilFn]) [(0,v62)]) 1 fun v63 S64=>
 Q (.tup [v63,(.bool true)]) S64)
 (a8 (d4 .eql x13 (.int .u8 49)) fun v65=>
 d9 v65
 (a8 (r9 S 2 x6) fun v66=>
 K5 S 2 (z6 2 (List.replicate 1 [(.int .i64 0), .nilFn]) [(0,v66)]) 1 fun v67 S68=>
 Q (.tup [v67,(.bool true)]) S68)
 (a8 (d4 .geq x0 (.int .u8 11)) fun v69=>
 a8 (b8 (b7 v69 true) (some x0)) fun v70=>
 a8 (b8 (b7 v69 true) (d4 .leq v70 (.int .u8 28))) fun v71=>
 a8 (B6 v69 v71 (.bool false)) fun v72=>
 d9 v72
 (a8 (r9 S 2 x6) fun v73=>
 K5 S 2 (z6 2 (List.replicate 1 [(.int .i64 0), .nilFn]) [(0,v73)]) 1 fun v74 S75=>
 Q (.tup [v74,(.bool true)]) S75)
 (a8 (d4 .geq x0 (.int .u8 1)) fun v76=>
 a8 (b8 (b7 v76 true) (some x0)) fun v77=>
 a8 (b8 (b7 v76 true) (d4 .leq v77 (.int .u8 52))) fun v78=>
 a8 (B6 v76 v78 (.bool false)) fun v79=>
 Q (.tup [.nilSlc,v79]) S))))
def I8(E:d6)(w0:i9)(Q:D→b4→Prop)(x0 x5 x6 x13 x61:D)(S:b4):Prop:=d5 Try.prog E w0 a9f (f0 90 [0,5,6,13,61] [x0,x5,x6,x13,x61]) S (a8h E w0 Q)
theorem a5Z{E:d6}{w0:i9}{Q:D→b4→Prop}{x0 x5 x6 x13 x61:D}{S:b4}(h:a3f E w0 Q x0 x5 x6 x13 x61 S):I8 E w0 Q x0 x5 x6 x13 x61 S:=f9 C3 C1 C4 mixed (by kernel_rfl) h
noncomputable def a9h:Code:=(i5 [1,1,1,0,1,0,1,1,1,1,1,1,1,1,1,1,1] (Try.f60.body.getD .skip))
def a7W(E:d6)(w0:i9)(Q:D→b4→Prop):j6→List D→b4→Prop:=
 (s7 0 (X9 Try.prog E w0 C3 C1 C4 (i5 [1,1,1,1] (Try.f60.body.getD .skip)) (P2 Try.prog Try.f60 Q)))
def a3g(E:d6)(w0:i9)(Q:D→b4→Prop)(x0 x5 x6 x13 x50:D)(S:b4):Prop:=
 d9 x50
 (s4 Try.prog E w0 j5 [(.int .i64 1),(.int .i64 5)] S fun v46 S47=>
 a8 (D6 (r8 [(.int .i64 0), .nilFn] [(0,1,(.int .i64 1)),(1,1,v46)])) fun v48=>
 K5 S47 2 (z6 2 (List.replicate 1 [(.int .i64 0), .nilFn]) [(0,v48)]) 1 fun v49 S50=>
 Q (.tup [v49,(.bool true)]) S50)
 (a8 (d4 .eql x13 (.int .u8 29)) fun v51=>
 d9 v51
 (a8 (r9 S 2 x6) fun v52=>
 a8 (r9 S 2 x6) fun v53=>
 K5 S 2 (z6 2 (List.replicate 2 [(.int .i64 0), .nilFn]) [(0,v52),(1,v53)]) 2 fun v54 S55=>
 Q (.tup [v54,(.bool true)]) S55)
 (a8 (d4 .eql x13 (.int .u8 46)) fun v80=>
 d9 v80
 (I8 E w0 Q x0 x5 x6 x13 v80 S)
 (a8 (d4 .eql x13 (.int .u8 47)) fun v81=>
 d9 v81
 (I8 E w0 Q x0 x5 x6 x13 v81 S)
 (a8 (d4 .eql x13 (.int .u8 48)) fun v82=>
 I8 E w0 Q x0 x5 x6 x13 v82 S))))
def Q8(E:d6)(w0:i9)(Q:D→b4→Prop)(x0 x5 x6 x13 x50:D)(S:b4):Prop:=d5 Try.prog E w0 a9h (f0 90 [0,5,6,13,50] [x0,x5,x6,x13,x50]) S (a7W E w0 Q)
theorem a5V{E:d6}{w0:i9}{Q:D→b4→Prop}{x0 x5 x6 x13 x50:D}{S:b4}(h:a3g E w0 Q x0 x5 x6 x13 x50 S):Q8 E w0 Q x0 x5 x6 x13 x50 S:=f9 C3 C1 C4 mixed (by kernel_rfl) h
noncomputable def a8K:Code:=(i5 [1,1,1,0,1,0,1,1,1,1,1,1,1,1,1] (Try.f60.body.getD .skip))
def a8e(E:d6)(w0:i9)(Q:D→b4→Prop):j6→List D→b4→Prop:=
 (s7 0 (X9 Try.prog E w0 C3 C1 C4 (i5 [1,1,1,1] (Try.f60.body.getD .skip)) (P2 Try.prog Try.f60 Q)))
def a2M(E:d6)(w0:i9)(Q:D→b4→Prop)(x0 x4 x5 x6 x13 x44:D)(S:b4):Prop:=
 d9 x44
 (a8 (r9 S 2 x4) fun v42=>
 a8 (r9 S 2 x4) fun v43=>
 K5 S 2 (z6 2 (List.replicate 2 [(.int .i64 0), .nilFn]) [(0,v42),(1,v43)]) 2 fun v44 S45=>
 Q (.tup [v44,(.bool true)]) S45)
 (a8 (d4 .eql x13 (.int .u8 23)) fun v83=>
 d9 v83
 (Q8 E w0 Q x0 x5 x6 x13 v83 S)
 (a8 (d4 .eql x13 (.int .u8 24)) fun v84=>
 Q8 E w0 Q x0 x5 x6 x13 v84 S))
def Q3(E:d6)(w0:i9)(Q:D→b4→Prop)(x0 x4 x5 x6 x13 x44:D)(S:b4):Prop:=d5 Try.prog E w0 a8K (f0 90 [0,4,5,6,13,44] [x0,x4,x5,x6,x13,x44]) S (a8e E w0 Q)
theorem a5S{E:d6}{w0:i9}{Q:D→b4→Prop}{x0 x4 x5 x6 x13 x44:D}{S:b4}(h:a2M E w0 Q x0 x4 x5 x6 x13 x44 S):Q3 E w0 Q x0 x4 x5 x6 x13 x44 S:=f9 C3 C1 C4 mixed (by kernel_rfl) h
noncomputable def b0i:Code:=(i5 [1,1,1,0,1,0,1,1,1,1,1,1,1] (Try.f60.body.getD .skip))
def a9d(E:d6)(w0:i9)(Q:D→b4→Prop):j6→List D→b4→Prop:=
 (s7 0 (X9 Try.prog E w0 C3 C1 C4 (i5 [1,1,1,1] (Try.f60.body.getD .skip)) (P2 Try.prog Try.f60 Q)))
def a4c(E:d6)(w0:i9)(Q:D→b4→Prop)(x0 x4 x5 x6 x13 x29:D)(S:b4):Prop:=
 d9 x29
 (a8 (r9 S 2 x4) fun v39=>
 K5 S 2 (z6 2 (List.replicate 1 [(.int .i64 0), .nilFn]) [(0,v39)]) 1 fun v40 S41=>
 Q (.tup [v40,(.bool true)]) S41)
 (a8 (d4 .eql x13 (.int .u8 37)) fun v85=>
 d9 v85
 (Q3 E w0 Q x0 x4 x5 x6 x13 v85 S)
 (a8 (d4 .eql x13 (.int .u8 38)) fun v86=>
 Q3 E w0 Q x0 x4 x5 x6 x13 v86 S))
def m7(E:d6)(w0:i9)(Q:D→b4→Prop)(x0 x4 x5 x6 x13 x29:D)(S:b4):Prop:=d5 Try.prog E w0 b0i (f0 90 [0,4,5,6,13,29] [x0,x4,x5,x6,x13,x29]) S (a9d E w0 Q)
theorem a6M{E:d6}{w0:i9}{Q:D→b4→Prop}{x0 x4 x5 x6 x13 x29:D}{S:b4}(h:a4c E w0 Q x0 x4 x5 x6 x13 x29 S):m7 E w0 Q x0 x4 x5 x6 x13 x29 S:=f9 C3 C1 C4 mixed (by kernel_rfl) h
def a7R(E:d6)(w0:i9)(Q:D→b4→Prop)(a0:D)(S:b4):Prop:=
 s4 Try.prog E w0 j5 [(.int .i64 0),(.int .i64 65535)] S fun v0 S1=>
 a8 (D6 (r8 [(.int .i64 0), .nilFn] [(0,1,(.int .i64 2)),(1,1,v0)])) fun v2=>
 s4 Try.prog E w0 j5 [(.int .i64 0),(.int .i64 4294967295)] S1 fun v3 S4=>
 a8 (D6 (r8 [(.int .i64 0), .nilFn] [(0,1,(.int .i64 4)),(1,1,v3)])) fun v5=>
 o9 S4 [(.int .i64 0), .nilFn] fun v6 S7=>
 o9 S7 [(.int .i64 0), .nilFn] fun v8 S9=>
 j2 S9 2 v6 v2 fun v10 S11=>
 j2 S11 2 v8 v5 fun v12 S13=>
 s4 Try.prog E w0 j5 [(.int .i64 1),(.int .i64 3)] S13 fun v14 S15=>
 a8 (D6 (r8 [(.int .i64 0), .nilFn] [(0,1,(.int .i64 1)),(1,1,v14)])) fun v16=>
 o9 S15 [(.int .i64 0), .nilFn] fun v17 S18=>
 j2 S18 2 v17 v16 fun v19 S20=>
 a8 (d4 .eql a0 (.int .u8 1)) fun v21=>
 d9 v21
 (s4 Try.prog E w0 z8 [(.int .u8 1)] S20 fun v22 S23=>
 a8 (D6 (r8 [(.int .i64 0), .nilFn] [(0,1,(.int .i64 1)),(1,1,v22)])) fun v24=>
 K5 S23 2 (z6 2 (List.replicate 1 [(.int .i64 0), .nilFn]) [(0,v24)]) 1 fun v25 S26=>
 Q (.tup [v25,(.bool true)]) S26)
 (a8 (d4 .eql a0 (.int .u8 2)) fun v27=>
 d9 v27
 (s4 Try.prog E w0 z8 [(.int .u8 2)] S20 fun v28 S29=>
 a8 (D6 (r8 [(.int .i64 0), .nilFn] [(0,1,(.int .i64 4)),(1,1,v28)])) fun v30=>
 K5 S29 2 (z6 2 (List.replicate 1 [(.int .i64 0), .nilFn]) [(0,v30)]) 1 fun v31 S32=>
 Q (.tup [v31,(.bool true)]) S32)
 (a8 (d4 .eql a0 (.int .u8 3)) fun v33=>
 d9 v33
 (s4 Try.prog E w0 z8 [(.int .u8 3)] S20 fun v34 S35=>
 a8 (D6 (r8 [(.int .i64 0), .nilFn] [(0,1,(.int .i64 8)),(1,1,v34)])) fun v36=>
 K5 S35 2 (z6 2 (List.replicate 1 [(.int .i64 0), .nilFn]) [(0,v36)]) 1 fun v37 S38=>
 Q (.tup [v37,(.bool true)]) S38)
 (a8 (d4 .eql a0 (.int .u8 6)) fun v87=>
 d9 v87
 (m7 E w0 Q a0 v6 v8 v17 a0 v87 S20)
 (a8 (d4 .eql a0 (.int .u8 7)) fun v88=>
 d9 v88
 (m7 E w0 Q a0 v6 v8 v17 a0 v88 S20)
 (a8 (d4 .eql a0 (.int .u8 8)) fun v89=>
 d9 v89
 (m7 E w0 Q a0 v6 v8 v17 a0 v89 S20)
 (a8 (d4 .eql a0 (.int .u8 50)) fun v90=>
 d9 v90
 (m7 E w0 Q a0 v6 v8 v17 a0 v90 S20)
 (a8 (d4 .eql a0 (.int .u8 36)) fun v91=>
 d9 v91
 (m7 E w0 Q a0 v6 v8 v17 a0 v91 S20)
 (a8 (d4 .eql a0 (.int .u8 39)) fun v92=>
 d9 v92
 (m7 E w0 Q a0 v6 v8 v17 a0 v92 S20)
 (a8 (d4 .eql a0 (.int .u8 40)) fun v93=>
 d9 v93
 (m7 E w0 Q a0 v6 v8 v17 a0 v93 S20)
 (a8 (d4 .eql a0 (.int .u8 41)) fun v94=>
 d9 v94
 (m7 E w0 Q a0 v6 v8 v17 a0 v94 S20)
 (a8 (d4 .eql a0 (.int .u8 42)) fun v95=>
 d9 v95
 (m7 E w0 Q a0 v6 v8 v17 a0 v95 S20)
 (a8 (d4 .eql a0 (.int .u8 43)) fun v96=>
 d9 v96
 (m7 E w0 Q a0 v6 v8 v17 a0 v96 S20)
 (a8 (d4 .eql a0 (.int .u8 44)) fun v97=>
 d9 v97
 (m7 E w0 Q a0 v6 v8 v17 a0 v97 S20)
 (a8 (d4 .eql a0 (.int .u8 45)) fun v98=>
 m7 E w0 Q a0 v6 v8 v17 a0 v98 S20))))))))))))))
theorem b0F{E:d6}{w0:i9}{Q:D→b4→Prop}{a0:D}{S:b4}(h:a7R E w0 (b9 E Q) a0 S):s4 Try.prog E w0 a3U [a0] S Q:=
 q8 C3 C1 C4 (fn:=Try.f60) (c:=Try.f60.body.getD .skip) mixed Try.func60 (by kernel_rfl) (by kernel_rfl) h
end Go.Proofs.Ytdkidgkiplcggaa.d
end
section
open Go.Proofs Go Go.Am Go.Op
namespace Go.Proofs.Ytdkidgkiplcggaa.d
section
def fR(l:List Fld):List (List D):=l.map fun f=>[.int .i64 (f.size:Int),U8 f.lo f.hi]
def a4L(op:Int):List (List D):=if op=1 then[[.int .i64 1,a5Y 1]]else if op=2 then[[.int .i64 4,a5Y 2]]else if op=3 then[[.int .i64 8,a5Y 3]]else fR ((lay op).getD [])
section
variable{E:d6}{w0:i9}{S:b4}{Q:D→b4→Prop}{k4 k5 k6:Nat}{a4 a5 a6:List AV}{op:Int}{b:Bool}
theorem a1f{n:Int}{v:D}(h:r6 v=some [v]):D6 (r8 [(.int .i64 0), .nilFn] [(0,1,(.int .i64 n)),(1,1,v)])=some (.agg [.int .i64 n,v]):=by
 simp[r8,h,n8]
@[simp] theorem a8l(lo hi:Int):r6 (U8 lo hi)=some [U8 lo hi]:=(rfl)
@[simp] theorem b3E(w:Int):r6 (a5Y w)=some [a5Y w]:=(rfl)
theorem a0O{n:Int}{v:D}{K:D→b4→Prop}(h:K (.lst [[.int .i64 n,v]] 2) S):K5 S 2 (z6 2 (List.replicate 1 [(.int .i64 0), .nilFn]) [(0, .agg [.int .i64 n,v])]) 1 K:=by
 simp only[z6,clA,List.length_cons,List.length_nil,List.replicate,List.set]
 rw[if_pos (by decide)]
 exact P7 rfl h
theorem b8Z{n:Int}{v:D}{K:D→b4→Prop}(h:K (.lst [[.int .i64 n,v],[.int .i64 n,v]] 2) S):K5 S 2 (z6 2 (List.replicate 2 [(.int .i64 0), .nilFn]) [(0, .agg [.int .i64 n,v]),(1, .agg [.int .i64 n,v])]) 2 K:=by
 simp only[z6,clA,List.length_cons,List.length_nil,List.replicate,List.set]
 rw[if_pos (by decide),if_pos (by decide)]
 exact P7 rfl h
theorem bx{k:Nat}{n:Int}{v:D}{acs:List AV}(h:S k=some ⟨2,[[.int .i64 n,v]],acs⟩):r9 S 2 (.ptr k 0)=some (.agg [.int .i64 n,v]):=laP h ⟨by decide,by simp⟩
theorem b8A(h5:S k5=some ⟨2,[[.int .i64 4,U8 0 4294967295]],a5⟩)(h6:S k6=some ⟨2,[[.int .i64 1,U8 1 3]],a6⟩)(hQ:b9 E Q (.tup [.lst (fR ((c0k b op).getD [])) 2, .bool (c0k b op).isSome]) S):
  I8 E w0 (b9 E Q) (.int .u8 op) (.ptr k5 0) (.ptr k6 0) (.int .u8 op) (.bool b) S:=by
 refine a5Z ?_
 unfold a3f
 unfold c0k at hQ
 have nilq:b9 E Q (.tup [.lst [] 2, .bool true]) S→b9 E Q (.tup [.nilSlc, .bool true]) S:=fun h=>b9.nilT (lp:=[]) (sz:=2) h
 have nilf:b9 E Q (.tup [.lst [] 2, .bool false]) S→b9 E Q (.tup [.nilSlc, .bool false]) S:=fun h=>b9.nilT (lp:=[]) (sz:=2) h
 cases b with
 |true=>rw[cdT,bx h5,oD];exact a0O hQ
 |false=>
  rw[cdF,a2B,oD,cdB]
  simp only[Bool.false_eq_true,if_false]at hQ
  refine⟨fun h=> ?_,fun h=> ?_⟩
  ·rw[if_pos (by simpa using h)]at hQ
   refine B2.use ?_
   rw[a1f (a8l _ _),oD]
   exact a0O hQ
  rw[if_neg (by simpa using h)]at hQ
  rw[a2B,oD,cdB]
  refine⟨fun h=> ?_,fun h=> ?_⟩
  ·rw[if_pos (by simpa using h)]at hQ;rw[bx h6,oD];exact a0O hQ
  rw[if_neg (by simpa using h)]at hQ
  by_cases h1:11≤op
  ·by_cases h2:op≤28
   ·rw[if_pos ⟨h1,h2⟩]at hQ
    simp[h1,h2,bx h6]
    exact a0O hQ
   ·rw[if_neg (by omega)]at hQ
    simp[h1,h2]
    by_cases h3:op≤52
    ·rw[if_pos (by omega)]at hQ
     simp[show(1:Int)≤op by omega,h3]
     exact nilq hQ
    ·rw[if_neg (by omega)]at hQ
     simp[show(1:Int)≤op by omega,h3]
     exact nilf hQ
  ·rw[if_neg (by omega)]at hQ
   simp[h1]
   by_cases h3:1≤op
   ·rw[if_pos (by omega)]at hQ
    simp[h3,show op≤52 by omega]
    exact nilq hQ
   ·rw[if_neg (by omega)]at hQ
    simp[h3]
    exact nilf hQ
theorem c0U(h5:S k5=some ⟨2,[[.int .i64 4,U8 0 4294967295]],a5⟩)(h6:S k6=some ⟨2,[[.int .i64 1,U8 1 3]],a6⟩)(hQ:b9 E Q (.tup [.lst (fR ((b9X b op).getD [])) 2, .bool (b9X b op).isSome]) S):
  Q8 E w0 (b9 E Q) (.int .u8 op) (.ptr k5 0) (.ptr k6 0) (.int .u8 op) (.bool b) S:=by
 refine a5V ?_
 unfold a3g
 unfold b9X at hQ
 cases b with
 |true=>
  rw[cdT]
  refine B2.use ?_
  rw[a1f (a8l _ _),oD]
  exact a0O hQ
 |false=>
  rw[cdF,a2B,oD,cdB]
  simp only[Bool.false_eq_true,if_false]at hQ
  refine⟨fun h=> ?_,fun h=> ?_⟩
  ·rw[if_pos (by simpa using h)]at hQ;rw[bx h6,oD,oD];exact b8Z hQ
  rw[if_neg (by simpa using h)]at hQ
  simp only[a2B,oD,cdB]
  refine⟨fun h=> ?_,fun h=>⟨fun h'=> ?_,fun h'=> ?_⟩⟩
  ·rw[h];refine b8A h5 h6 ?_;simpa [h]using hQ
  ·rw[h'];refine b8A h5 h6 ?_;simpa [h,h']using hQ
  ·refine b8A h5 h6 ?_;simpa [h,h']using hQ
theorem c2e(h4:S k4=some ⟨2,[[.int .i64 2,U8 0 65535]],a4⟩)(h5:S k5=some ⟨2,[[.int .i64 4,U8 0 4294967295]],a5⟩)(h6:S k6=some ⟨2,[[.int .i64 1,U8 1 3]],a6⟩)(hQ:b9 E Q (.tup [.lst (fR ((b9M b op).getD [])) 2, .bool (b9M b op).isSome]) S):
  Q3 E w0 (b9 E Q) (.int .u8 op) (.ptr k4 0) (.ptr k5 0) (.ptr k6 0) (.int .u8 op) (.bool b) S:=by
 refine a5S ?_
 unfold a2M
 unfold b9M at hQ
 cases b with
 |true=>rw[cdT,bx h4,oD,oD];exact b8Z hQ
 |false=>
  rw[cdF]
  simp only[Bool.false_eq_true,if_false]at hQ
  simp only[a2B,oD,cdB]
  refine⟨fun h=> ?_,fun h=> ?_⟩
  ·rw[h];refine c0U h5 h6 ?_;simpa [h]using hQ
  ·refine c0U h5 h6 ?_;simpa [h]using hQ
theorem c3S(h4:S k4=some ⟨2,[[.int .i64 2,U8 0 65535]],a4⟩)(h5:S k5=some ⟨2,[[.int .i64 4,U8 0 4294967295]],a5⟩)(h6:S k6=some ⟨2,[[.int .i64 1,U8 1 3]],a6⟩)(hQ:b9 E Q (.tup [.lst (fR ((b8r b op).getD [])) 2, .bool (b8r b op).isSome]) S):
  m7 E w0 (b9 E Q) (.int .u8 op) (.ptr k4 0) (.ptr k5 0) (.ptr k6 0) (.int .u8 op) (.bool b) S:=by
 refine a6M ?_
 unfold a4c
 unfold b8r at hQ
 cases b with
 |true=>rw[cdT,bx h4,oD];exact a0O hQ
 |false=>
  rw[cdF]
  simp only[Bool.false_eq_true,if_false]at hQ
  simp only[a2B,oD,cdB]
  refine⟨fun h=> ?_,fun h=> ?_⟩
  ·rw[h];refine c2e h4 h5 h6 ?_;simpa [h]using hQ
  ·refine c2e h4 h5 h6 ?_;simpa [h]using hQ
theorem b3x:a0A Try.prog E w0 a3U [.int .u8 op] (.tup [.lst (a4L op) 2, .bool (lay op).isSome]):=fun S0=>by
 refine b0F ?_
 unfold a7R
 refine B2.use ?_
 rw[a1f (a8l _ _),oD]
 refine B2.use ?_
 rw[a1f (a8l _ _),oD]
 intro k4 a4 n4 k5 a5 n5
 obtain⟨ne5,n5'⟩:=b4.fresh n5
 refine stP (ds:=[.int .i64 2,U8 0 65535]) (by rw[b4.set_ne _ _ _ (Ne.symm ne5)];exact b4.set_same _ _ _) (clA _) ⟨rfl,by decide,by simp⟩ fun a4=> ?_
 rw[b4.set_in _ (Ne.symm ne5)]
 refine stP (ds:=[.int .i64 4,U8 0 4294967295]) (b4.set_same _ _ _) (clA _) ⟨rfl,by decide,by simp⟩ fun a5=> ?_
 rw[b4.set_set]
 refine B2.use ?_
 rw[a1f (a8l _ _),oD]
 intro k6 a6 n6
 refine stP (ds:=[.int .i64 1,U8 1 3]) (b4.set_same _ _ _) (clA _) ⟨rfl,by decide,by simp⟩ fun a6=> ?_
 rw[b4.set_set]
 obtain⟨ne6,n6'⟩:=b4.fresh n6
 obtain⟨ne6',n6''⟩:=b4.fresh n6'
 generalize hS:((S0.set k4 _).set k5 _).set k6 _=S
 have hle:S0.le S:=by rw[←hS];exact b4.le_set (b4.le_set (b4.le_new n4) n5') n6''
 have h6:S k6=some ⟨2,[[.int .i64 1,U8 1 3]],a6⟩:=by rw[←hS];exact b4.set_same _ _ _
 have h5:S k5=some ⟨2,[[.int .i64 4,U8 0 4294967295]],a5⟩:=by rw[←hS,b4.set_ne _ _ _ (Ne.symm ne6)];exact b4.set_same _ _ _
 have h4:S k4=some ⟨2,[[.int .i64 2,U8 0 65535]],a4⟩:=by rw[←hS,b4.set_ne _ _ _ (Ne.symm ne6'),b4.set_ne _ _ _ (Ne.symm ne5)];exact b4.set_same _ _ _
 have hQ:b9 E (fun d' S'=>d'= .tup [.lst (a4L op) 2, .bool (lay op).isSome]∧S'=S0) (.tup [.lst (a4L op) 2, .bool (lay op).isSome]) S:=b9.less hle b9.pure
 clear hS
 generalize hQ0:(fun d' S'=>d'=D.tup [.lst (a4L op) 2, .bool (lay op).isSome]∧S'=S0)=Q0 at hQ ⊢
 clear hQ0
 simp only[a2B,oD,cdB,beq_iff_eq,beq_eq_false_iff_ne,ne_eq]
 refine⟨fun h=> ?_,fun g1=>⟨fun h=> ?_,fun g2=>⟨fun h=> ?_,fun g3=> ?_⟩⟩⟩
 ·refine W3.use ?_
  rw[a1f (b3E _),oD]
  refine a0O ?_
  rw[h]at hQ;exact hQ
 ·refine W3.use ?_
  rw[a1f (b3E _),oD]
  refine a0O ?_
  rw[h]at hQ;exact hQ
 ·refine W3.use ?_
  rw[a1f (b3E _),oD]
  refine a0O ?_
  rw[h]at hQ;exact hQ
 have e:lay op=b8r (op==6||op==7||op==8||op==50||op==36||op==39||op==40||op==41||op==42||op==43||op==44||op==45) op:=by unfold lay;rw[if_neg g1,if_neg g2,if_neg g3]
 rw[show a4L op=fR ((lay op).getD []) by unfold a4L;rw[if_neg g1,if_neg g2,if_neg g3],e]at hQ
 generalize hb:(op==6||op==7||op==8||op==50||op==36||op==39||op==40||op==41||op==42||op==43||op==44||op==45)=b at hQ
 have fin:∀c:Bool,c=b→m7 E w0 (b9 E Q0) (.int .u8 op) (.ptr k4 0) (.ptr k5 0) (.ptr k6 0) (.int .u8 op) (.bool c) S:=by
  rintro c rfl
  exact c3S h4 h5 h6 hQ
 refine⟨fun h=>fin _ (by rw[←hb];simp[h]),fun h1=>⟨fun h=>fin _ (by rw[←hb];simp[h]),fun h2=>⟨fun h=>fin _ (by rw[←hb];simp[h]),fun h3=>⟨fun h=>fin _ (by rw[←hb];simp[h]),fun h4=>⟨fun h=>fin _ (by rw[←hb];simp[h]),fun h5=>⟨fun h=>fin _ (by rw[←hb];simp[h]),fun h6=>
  ⟨fun h=>fin _ (by rw[←hb];simp[h]),fun h7=>⟨fun h=>fin _ (by rw[←hb];simp[h]),fun h8=>⟨fun h=>fin _ (by rw[←hb];simp[h]),fun h9=>⟨fun h=>fin _ (by rw[←hb];simp[h]),fun h10=>⟨fun h=>fin _ (by rw[←hb];simp[h]),fun h11=>fin _ (by rw[←hb];simp[h1,h2,h3,h4,h5,h6,h7,h8,h9,h10,h11])⟩⟩⟩⟩⟩⟩⟩⟩⟩⟩⟩
end
end
section
def b0J(fv:D)(lo hi:Int):Prop:=fv=U8 lo hi∨∃w,fv=a5Y w∧lo=Y4 w∧hi=Y2 w
theorem b0J.bet(lo hi:Int):b0J (U8 lo hi) lo hi:= .inl rfl
theorem b0J.fit(w:Int):b0J (a5Y w) (Y4 w) (Y2 w):= .inr ⟨w,rfl,rfl,rfl⟩
theorem b0J.cells{fv:D}{lo hi:Int}(h:b0J fv lo hi):r6 fv=some [fv]:=by
 rcases h with rfl|⟨w,rfl,_⟩<;>rfl
theorem c5V:a1l Try.prog L0=true:=by kernel_rfl
theorem c5Z:a1l Try.prog X4=true:=by kernel_rfl
def b6r(row:List D)(f:Fld):Prop:=∃fv,row=[.int .i64 (f.size:Int),fv]∧b0J fv f.lo f.hi
theorem c1d{op:Int}{i:Nat}{f:Fld}(h:((lay op).getD [])[i]? =some f):∃row,(a4L op)[i]? =some row∧b6r row f:=by
 unfold a4L
 by_cases h1:op=1
 ·have e:lay op=some [⟨1,Y4 1,Y2 1⟩]:=by unfold lay;rw[if_pos h1]
  rw[e]at h
  rw[if_pos h1]
  cases i with
  |zero=>cases h;exact⟨_,rfl,_,rfl, .fit 1⟩
  |succ i=>cases h
 rw[if_neg h1]
 by_cases h2:op=2
 ·have e:lay op=some [⟨4,Y4 2,Y2 2⟩]:=by unfold lay;rw[if_neg h1,if_pos h2]
  rw[e]at h
  rw[if_pos h2]
  cases i with
  |zero=>cases h;exact⟨_,rfl,_,rfl, .fit 2⟩
  |succ i=>cases h
 rw[if_neg h2]
 by_cases h3:op=3
 ·have e:lay op=some [⟨8,Y4 3,Y2 3⟩]:=by unfold lay;rw[if_neg h1,if_neg h2,if_pos h3]
  rw[e]at h
  rw[if_pos h3]
  cases i with
  |zero=>cases h;exact⟨_,rfl,_,rfl, .fit 3⟩
  |succ i=>cases h
 rw[if_neg h3]
 exact⟨_,by unfold fR;rw[List.getElem?_map,h];rfl,_,rfl, .bet _ _⟩
theorem b5H{op:Int}:(a4L op).length=((lay op).getD []).length:=by
 unfold a4L
 by_cases h1:op=1
 ·rw[if_pos h1];unfold lay;rw[if_pos h1];rfl
 rw[if_neg h1]
 by_cases h2:op=2
 ·rw[if_pos h2];unfold lay;rw[if_neg h1,if_pos h2];rfl
 rw[if_neg h2]
 by_cases h3:op=3
 ·rw[if_pos h3];unfold lay;rw[if_neg h1,if_neg h2,if_pos h3];rfl
 rw[if_neg h3,fR,List.length_map]
section
variable{E:d6}{w0:i9}{S0 S:b4}{t:D}{bs ms:List Int}
theorem b7a{fv:D}{lo hi n:Int}(h:b0J fv lo hi)(hn:I64 n){K:D→b4→Prop}(hK:K (.bool (decide (lo≤n∧n≤hi))) S):a5o Try.prog (s4 Try.prog E w0) S fv [.int .i64 n] K:=by
 rcases h with rfl|⟨w,rfl,rfl,rfl⟩
 ·simp only[U8,a5o,a6N,c5V,if_true]
  exact a9j.use hK
 ·simp only[a5Y,a5o,a6N,c5Z,if_true]
  exact(b3k hn).use hK
end
end
end Go.Proofs.Ytdkidgkiplcggaa.d
end
section
namespace Go.Am
section
def WkR:List (List D)→List (List D)→Prop
 | [],[]=>True
 |r::rs,q::qs=>(WkL r q∧r.length=q.length)∧WkR rs qs
 |_,_=>False
theorem WkR.length:∀ {rs qs:List (List D)},WkR rs qs→rs.length=qs.length
 | [],[],_=>rfl
 |r::rs,q::qs,h=>by rw[List.length_cons,List.length_cons,WkR.length h.2]
 | [],_::_,h=>h.elim
 |_::_,[],h=>h.elim
theorem WkR.row:∀ {rs qs:List (List D)} {sz:Nat},WkR rs qs→(∀r∈rs,r.length=sz)→∀q∈qs,q.length=sz
 | [],[],sz,_,_=>fun q hq=>by cases hq
 |r::rs,q::qs,sz,h,hr=>fun y hy=>by
  rcases List.mem_cons.1 hy with e|hy
  ·subst e;rw[←h.1.2];exact hr r List.mem_cons_self
  ·exact WkR.row h.2 (fun r hr'=>hr r (List.mem_cons_of_mem _ hr')) y hy
 | [],_::_,_,h,_=>h.elim
 |_::_,[],_,h,_=>h.elim
theorem WkR.ok{E:d6}{R:Fz}:∀ {rs qs:List (List D)} {vs:List AV},WkR rs qs→R6 E R rs vs→R6 E R qs vs
 | [],[],vs,_,h=>h
 |r::rs,q::qs,vs,w,h=>by
  simp only[R6]at h ⊢
  obtain⟨a,b,e,h1,h2⟩:=h
  exact⟨a,b,e,w.1.1.ok h1,WkR.ok w.2 h2⟩
 | [],_::_,_,w,_=>w.elim
 |_::_,[],_,w,_=>w.elim
theorem Wk.lst{rs qs:List (List D)}(w:WkR rs qs)(sz:Nat):Wk (.lst rs sz) (.lst qs sz):=fun E R v h=>by
 simp only[Rp]at h ⊢
 rcases h with ⟨rfl,rfl⟩|⟨o,j,cap,ex,z,e1,e2,e3,e4,e5⟩
 ·cases qs with
  |nil=>exact .inl ⟨rfl,rfl⟩
  |cons=>exact w.elim
 ·refine .inr ⟨o,j,cap,ex,z,by rw[←w.length];exact e1,e2,by rw[←w.length];exact e3,w.row e4, ?_⟩
  rcases e5 with rfl|⟨all,f1,f2,f3⟩
  ·cases qs with
   |nil=>exact .inl rfl
   |cons=>exact w.elim
  ·exact .inr ⟨all,f1,by rw[←w.length];exact w.ok f2,by rw[←w.length];exact f3⟩
theorem Wk.trans{a b c:D}(h:Wk a b)(h':Wk b c):Wk a c:=fun E R v x=>h' E R v (h E R v x)
theorem WkR.map{α:Type}{f g:α→List D}(h:∀a,WkL (f a) (g a)∧(f a).length=(g a).length):∀(l:List α),WkR (l.map f) (l.map g)
 | []=>trivial
 |a::l=>⟨h a,WkR.map h l⟩
inductive Lst (rows:List (List D)) (sz:Nat):D→Prop where
 |lst:Lst rows sz (.lst rows sz)
 |ext (more:List (List D)):Lst rows sz (.ext rows more sz)
section
variable{rows:List (List D)}{sz:Nat}{d:D}
theorem Lst.len(h:Lst rows sz d):j9 d=some (.int .i64 rows.length):=by cases h<;>rfl
theorem Lst.at(h:Lst rows sz d){i:Nat}{row:List D}(hr:rows[i]? =some row):m9 sz d (.int .i64 (i:Int))=some (.elt row 0):=by
 cases h
 ·exact b4E hr
 ·exact c6d hr
theorem Lst.rowsS(h:Lst rows sz d)(S:b4):Am.rowsS S sz d=some rows:=by
 cases h<;>simp[Am.rowsS,F6]
theorem Lst.cells(h:Lst rows sz d):r6 d=some [d]:=by cases h<;>rfl
end
theorem c2T{n cap:Nat}(h:n≤cap):A5 (.int .i64 (n:Int)) cap=some n:=by
 simp only[A5]
 rw[if_pos (by omega),Int.toNat_natCast]
theorem Grw.upd{S0 S:b4}{t:D}{rows:List (List D)}{sz k:Nat}{o o':s9}(h:Grw S0 t rows sz S)(hk:S0 k=some o'):Grw (S0.set k o) t rows sz (S.set k o):=by
 rcases h with ⟨rfl,rfl,rfl⟩|⟨l,acs,h,rfl,rfl⟩
 ·exact .inl ⟨rfl,rfl,rfl⟩
 ·have hne:l≠k:=fun e=>by rw[e,hk]at h;cases h
  refine .inr ⟨l,acs, ?_,rfl,b4.set_comm _ hne _ _⟩
  rw[b4.set_ne _ _ _ hne];exact h
theorem Grw.last{S0 S:b4}{t:D}{rows:List (List D)}{sz bytes:Nat}(h:Grw S0 t rows sz S){v:D}{news:List (List D)}(hv:rowsS S sz v=some news)(hn:news≠[])(hb:0<bytes∧(2*(rows.length+news.length)+768)*bytes≤2^47){K:D→b4→Prop}
  (hK:K (.lst (rows++news) sz) S0):z7 S sz bytes t v K:=by
 simp only[z7,hv]
 rcases h with ⟨rfl,rfl,rfl⟩|⟨k,acs,h,rfl,rfl⟩
 ·simp only[U7]
  rw[if_neg hn]
  refine⟨⟨hb.1,by simpa using hb.2⟩, .inl ?_⟩
  rw[List.take_of_length_le (Nat.le_refl _)]
  simpa using hK
 ·simp only[U7]
  rw[if_neg hn,b4.set_same]
  simp only
  rw[if_pos ⟨by trivial,by trivial,by omega⟩]
  refine⟨hb, .inl ?_⟩
  rw[b4.erase_set _ _ _ h,List.take_of_length_le (by simp)]
  simpa using hK
end
section
theorem b4.set_self{S:b4}{k:Nat}{o:s9}(h:S k=some o):S.set k o=S:=by
 funext j;unfold b4.set
 by_cases e:j=k
 ·subst e;rw[if_pos rfl,h]
 ·rw[if_neg e]
theorem b4.ne_of{S:b4}{k l:Nat}{o:s9}(h:S k=some o)(n:S l=Option.none):k≠l:=fun e=>by rw[e,n]at h;cases h
theorem b4.none_of{S S':b4}(h:S.le S'){k:Nat}(hk:S' k=Option.none):S k=Option.none:=by
 cases e:S k with
 |none=>rfl
 |some o=>rw[h _ _ e]at hk;cases hk
def H5(S:b4)(k sz:Nat)(c:List D):Prop:=∃a,S k=some ⟨sz,[c],a⟩
section
variable{S S':b4}{k l sz sz':Nat}{c c':List D}
theorem H5.new{a:List AV}:H5 (S.set k ⟨sz,[c],a⟩) k sz c:=⟨a,b4.set_same _ _ _⟩
theorem H5.set_ne(h:H5 S k sz c){o:s9}(hn:k≠l):H5 (S.set l o) k sz c:=by
 obtain⟨a,h⟩:=h;exact⟨a,by rw[b4.set_ne _ _ _ hn];exact h⟩
theorem H5.none(h:H5 S k sz c)(hn:S l=Option.none):k≠l:=by
 obtain⟨a,h⟩:=h;exact b4.ne_of h hn
theorem H5.set(h:H5 S k sz c){o:s9}(hn:S l=Option.none):H5 (S.set l o) k sz c:=h.set_ne (h.none hn)
theorem H5.of(h:H5 S k sz c)(e:S' k=S k):H5 S' k sz c:=by
 obtain⟨a,h⟩:=h;exact⟨a,by rw[e];exact h⟩
theorem H5.le(h:H5 S k sz c)(hl:S.le S'):H5 S' k sz c:=by
 obtain⟨a,h⟩:=h;exact⟨a,hl _ _ h⟩
theorem H5.ne(h:H5 S k sz c)(h':H5 S l sz' c')(hs:sz≠sz'):k≠l:=fun e=>by
 obtain⟨a,h⟩:=h;obtain⟨b,h'⟩:=h';subst e;rw[h]at h';cases h';exact hs rfl
theorem H5.there(h:H5 S k sz c):S k≠Option.none:=by
 obtain⟨a,h⟩:=h;rw[h];simp
theorem H5.ld(h:H5 S k sz c)(i:Nat):c9 S (.ptr k i)=c[i]? :=by obtain⟨a,h⟩:=h;exact ldP h
theorem H5.la(h:H5 S k sz c){i n:Nat}(hn:0<n∧i+n≤c.length):r9 S n (.ptr k i)=some (.agg ((c.drop i).take n)):=by obtain⟨a,h⟩:=h;exact laP h hn
theorem H5.all(h:H5 S k sz c){n:Nat}(hn:0<n)(hl:n=c.length):r9 S n (.ptr k 0)=Option.some (.agg c):=by
 rw[h.la ⟨hn,by omega⟩,List.drop_zero,List.take_of_length_le (by omega)]
theorem H5.st(h:H5 S k sz c){i n:Nat}{v:D}{ds:List D}{K:D→b4→Prop}(hv:r6 v=Option.some ds)(hn:ds.length=n∧0<n∧i+n≤c.length)(hK:∀a,K b6 (S.set k ⟨sz,[n8 c i ds],a⟩)):j2 S n (.ptr k i) v K:=by
 obtain⟨a,h⟩:=h;exact stP h hv hn hK
end
def X8(S0:b4)(av:List Nat)(t:D)(rows:List (List D))(sz:Nat)(S:b4):Prop:=
 (t= .nilSlc∧rows=[])∨∃k acs,S0 k=Option.none∧k ∉ av∧t= .raw k 0 rows.length rows.length false sz∧S k=some ⟨sz,rows,acs⟩
section
variable{S0 S:b4}{av:List Nat}{t:D}{rows:List (List D)}{sz:Nat}
theorem X8.nil:X8 S0 av .nilSlc [] sz S:= .inl ⟨rfl,rfl⟩
theorem X8.of(h:X8 S0 av t rows sz S){S':b4}(e:∀k o,k ∉ av→S k=some o→S' k=some o):X8 S0 av t rows sz S':=by
 rcases h with h|⟨k,acs,h0,h1,h2,h3⟩
 ·exact .inl h
 ·exact .inr ⟨k,acs,h0,h1,h2,e _ _ h1 h3⟩
theorem X8.set(h:X8 S0 av t rows sz S){l:Nat}{o:s9}(hl:l∈av∨S l=Option.none):X8 S0 av t rows sz (S.set l o):=h.of fun k o' hk e=>by
 rw[b4.set_ne]
 ·exact e
 ·rintro rfl
  rcases hl with hl|hl
  ·exact hk hl
  ·rw[hl]at e;cases e
theorem X8.le(h:X8 S0 av t rows sz S){S':b4}(hl:S.le S'):X8 S0 av t rows sz S':=h.of fun k o _ e=>hl _ _ e
theorem X8.push(h:X8 S0 av t rows sz S)(hle:S0.le S)(hav:∀j∈av,S j≠Option.none){bytes:Nat}{v:D}{news:List (List D)}(hv:rowsS S sz v=some news)(hn:news≠[])(hb:0<bytes∧(2*(rows.length+news.length)+768)*bytes≤2^47){K:D→b4→Prop}
  (hK:∀t' S',S0.le S'→(∀j∈av,S' j=S j)→X8 S0 av t' (rows++news) sz S'→K t' S'):z7 S sz bytes t v K:=by
 simp only[z7,hv]
 rcases h with ⟨rfl,rfl⟩|⟨k,acs,h0,h1,rfl,h3⟩
 ·simp only[U7]
  rw[if_neg hn]
  refine⟨⟨hb.1,by simpa using hb.2⟩, .inr fun k acs hk=>hK _ _ (b4.le_set hle (b4.none_of hle hk)) (fun j hj=>b4.set_ne _ _ _ fun e=>hav j hj (by rw[e];exact hk)) (.inr ⟨k,acs,b4.none_of hle hk,fun hm=>hav k hm hk,by simp,by simpa using b4.set_same _ _ _⟩)⟩
 ·simp only[U7]
  rw[if_neg hn,h3]
  simp only
  rw[if_pos ⟨by trivial,by trivial,by omega⟩]
  have hke:∀j∈av,(S.erase k) j=S j:=fun j hj=>b4.erase_ne _ _ fun e=>h1 (e▸hj)
  refine⟨hb, .inr fun k' acs' hk'=> ?_⟩
  have hle':=b4.le_erase hle h0
  refine hK _ _ (b4.le_set hle' (b4.none_of hle' hk')) (fun j hj=> ?_) (.inr ⟨k',acs',b4.none_of hle' hk',fun hm=>hav k' hm (by rw[←hke k' hm];exact hk'),by simp, ?_⟩)
  ·rw[b4.set_ne,hke j hj]
   rintro rfl
   exact hav j hj (by rw[←hke j hj];exact hk')
  ·rw[b4.set_same];simp
theorem X8.grw(h:X8 S0 av t rows sz S)(hle:S0.le S):∃S',S'.le S∧Grw S0 t rows sz S':=by
 rcases h with ⟨rfl,rfl⟩|⟨k,acs,h0,h1,rfl,h3⟩
 ·exact⟨S0,hle, .inl ⟨rfl,rfl,rfl⟩⟩
 ·refine⟨S0.set k ⟨sz,rows,acs⟩,fun j o e=> ?_, .inr ⟨k,acs,h0,rfl,rfl⟩⟩
  unfold b4.set at e
  split at e
  ·rename_i hj;subst hj;cases e;exact h3
  ·exact hle _ _ e
theorem X8.len(h:X8 S0 av t rows sz S):j9 t=some (.int .i64 rows.length):=by
 rcases h with ⟨rfl,rfl⟩|⟨k,acs,_,_,rfl,_⟩<;>rfl
theorem X8.cells(h:X8 S0 av t rows sz S):r6 t=some [t]:=by
 rcases h with ⟨rfl,rfl⟩|⟨k,acs,_,_,rfl,_⟩<;>rfl
end
theorem s4.fin{P:Program}{E:d6}{w0:i9}{f:FuncId}{ds:List D}{S:b4}{Q Q':D→b4→Prop}(h:s4 P E w0 f ds S Q)(hq:∀d S',Q d S'→b9 E Q' d S'):s4 P E w0 f ds S Q':=fun R H avs hF hC ha=>by
 refine b1Z _ _ _ _ _ (h R H avs hF hC ha) fun v H' ⟨F',R',S',d,a,b,c,e⟩=> ?_
 obtain⟨R2,S2,d2,a2,b2,c2,e2⟩:=hq _ _ e R' H' v b c
 exact⟨F',R2,S2,d2,Fz.le_trans a a2,b2,c2,e2⟩
end
end Go.Am
end
section
open Go.Proofs Go Go.Am Go.Op
namespace Go.Proofs.Ytdkidgkiplcggaa.d
section
def a0b(y:Int×Int):List D:=[.int .i64 y.1, .int .i64 y.2]
def b1b(arms:List (Int×Int)):D:= .lst (arms.map a0b) 2
def inC(y:In):List D:=[.int .u8 y.op, .int .i64 y.a, .int .i64 y.b,b1b y.arms]
def inD(y:In):D:= .agg (inC y)
section
variable{E:d6}{w0:i9}{S0 S:b4}{t:D}{bs ms:List Int}
@[simp] theorem c1Y(arms:List (Int×Int)):j9 (b1b arms)=some (.int .i64 arms.length):=by simp[b1b]
theorem c2k{arms:List (Int×Int)}{i:Nat}{y:Int×Int}(h:arms[i]? =some y):m9 2 (b1b arms) (.int .i64 (i:Int))=some (.elt (a0b y) 0):=b4E (by rw[List.getElem?_map,h];rfl)
end
end
section
theorem b6r.load{row:List D}{f:Fld}(h:b6r row f):row.length=2:=by obtain⟨fv,rfl,_⟩:=h;rfl
section
variable{E:d6}{w0:i9}{S0 S:b4}{t:D}{bs:List Int}{y:In}
end
end
section
@[simp] theorem c6y(row:List D)(rows:List (List D))(sz:Nat):m9 sz (.lst (row::rows) sz) (.int .i64 0)=some (.elt row 0):=b4E (i:=0) rfl
@[simp] theorem c6z(a row:List D)(rows:List (List D))(sz:Nat):m9 sz (.lst (a::row::rows) sz) (.int .i64 1)=some (.elt row 0):=b4E (i:=1) rfl
theorem c4U(a b:Int):(a==b)=decide (a=b):=by by_cases h:a=b<;>simp[h]
end
end Go.Proofs.Ytdkidgkiplcggaa.d
end
