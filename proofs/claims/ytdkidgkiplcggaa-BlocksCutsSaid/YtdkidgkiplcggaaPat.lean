/-
  BlocksCutsSaid: part Pat of its proof.
-/
import Derived.Test.YtdkidgkiplcggaaPas
import Derived.Test.YtdkidgkiplcggaaPar
import Derived.Test.YtdkidgkiplcggaaRows
import Derived.KernelRfl
set_option linter.unusedVariables false
set_option linter.unusedSimpArgs false
set_option maxRecDepth 100000
section
namespace Go.Am
mutual
def frz(k:Nat)(o:A2):D→D
 | .ptr j i=>if j=k then(match o.rows with
  | [cs]=> .elt cs i
  |_=> .any) else .ptr j i
 | .rel j r i sz=>if j=k then(match o.rows[r]? with
  |some row=>if o.sz=sz then .elt row i else .any
  |none=> .any) else .rel j r i sz
 | .raw j i len cap ex sz=>if j=k then(if o.sz=sz∧i+len≤o.rows.length∧len≤cap then .lst ((o.rows.drop i).take len) sz else .any) else .raw j i len cap ex sz
 | .fn f a b=> .fn f (a0W k o a) (a0W k o b)
 | .ifc t v=> .ifc t (frz k o v)
 | .agg cs=> .agg (a0W k o cs)
 | .tup ds=> .tup (a0W k o ds)
 |d=>d
def a0W(k:Nat)(o:A2):List D→List D
 | []=>[]
 |d::ds=>frz k o d::a0W k o ds
end
section
variable{P:Program}{E:g8}{w0:j0}{R:Fz}{S:b5}{H:AHeap}
def c3j(o:A2):Prop:=o.sz<H3∨∃cs,o.rows=[cs]
mutual
theorem b9Z(hC:s0 E R S H){k:Nat}{o:A2}(hk:S k=some o){R':Fz}(hle:R.le R')(hR:c3j o→R' k=some o.acs):∀ {d:D} {v:AV},Rp E R d v→Rp E R' (frz k o d) v
 | .any,v,_=>by simp only[frz,Rp]
 | .bool b,v,h=>by simp only[frz,Rp]at*;exact h
 | .int j n,v,h=>by simp only[frz,Rp]at*;exact h
 | .str s,v,h=>by simp only[frz,Rp]at*;exact h
 | .nilPtr,v,h=>by simp only[frz,Rp]at*;exact h
 | .nilSlc,v,h=>by simp only[frz,Rp]at*;exact h
 | .nilMap,v,h=>by simp only[frz,Rp]at*;exact h
 | .nilFn,v,h=>by simp only[frz,Rp]at*;exact h
 | .nilIfc,v,h=>by simp only[frz,Rp]at*;exact h
 | .mp j,v,h=>by simp only[frz,Rp]at*;exact h
 | .tip j rows sz,v,h=>by
  have:=Rp.le hle _ _ h
  simp only[frz];exact this
 | .elt row i,v,h=>by
  have:=Rp.le hle _ _ h
  simp only[frz];exact this
 | .lst rows sz,v,h=>by
  have:=Rp.le hle _ _ h
  simp only[frz];exact this
 | .ext rows more sz,v,h=>by
  have:=Rp.le hle _ _ h
  simp only[frz];exact this
 | .ptr j i,v,h=>by
  simp only[frz]
  split
  ·rename_i e
   subst e
   split
   ·rename_i cs hcs
    have hc:c3j o:= .inr ⟨_,hcs⟩
    obtain⟨h1,⟨pre,h2⟩,h3,h4,h5⟩:=hC.cells hk hc
    simp only[Rp]at h ⊢
    subst h
    rw[hcs,List.flatten_singleton]at h5
    have e:o.acs.take cs.length=o.acs:=List.take_of_length_le (by rw[h5.length];exact Nat.le_refl _)
    refine⟨.new j,0,o.acs,by rw[Nat.zero_add], ?_, ?_, ?_⟩
    ·exact hR hc
    ·rw[List.drop_zero,e];exact s7.le hle _ _ h5
    ·rw[List.drop_zero,e];exact h3
   ·exact a8n
  ·simp only[Rp]at*;exact h
 | .rel j r i sz,v,h=>by
  simp only[frz]
  split
  ·rename_i e
   subst e
   split
   ·rename_i row hrow
    split
    ·rename_i hsz
     simp only[Rp]at h ⊢
     obtain⟨hzm,rfl⟩:=h
     have hc:c3j o:= .inl (by rw[hsz];exact hzm)
     obtain⟨h1,⟨pre,h2⟩,h3,h4,h5⟩:=hC.cells hk hc
     have hl:row.length=sz:=by rw[h4 row (List.mem_of_getElem? hrow),hsz]
     refine⟨.new j,r*sz,o.acs,rfl, ?_, ?_,G8 (W5 h3 _) _⟩
     ·exact hR hc
     ·have:=(h5.drop (r*sz)).take row.length
      rw[←hsz]at this hl ⊢
      rw[hl,a8j h4 hrow]at this
      rw[hl]
      exact s7.le hle _ _ this
    ·exact a8n
   ·exact a8n
  ·simp only[Rp]at*;exact h
 | .raw j i len cap ex sz,v,h=>by
  simp only[frz]
  split
  ·rename_i e
   subst e
   split
   ·rename_i hc
    have hzm:sz<H3:=by simp only[Rp]at h;exact h.1
    have hce:c3j o:= .inl (by rw[hc.1];exact hzm)
    refine Rp.le (R:=fun i=>if i=j then some o.acs else R i) (fun i cs e=> ?_) _ _ (a5z hC hk h hc.1 hc.2.1 hc.2.2)
    replace e:(if i=j then some o.acs else R i)=some cs:=e
    split at e
    ·rename_i hi;rw[hi, ←e];exact hR hce
    ·exact hle _ _ e
   ·exact a8n
  ·simp only[Rp]at*;exact h
 | .fn f a b,v,h=>by
  simp only[frz,Rp]at*
  obtain⟨a',b',e1,e2,e3⟩:=h
  exact⟨a',b',e1,a8N hC hk hle hR e2,a8N hC hk hle hR e3⟩
 | .ifc t d,v,h=>by
  simp only[frz,Rp]at*
  obtain⟨v',e1,e2⟩:=h
  exact⟨v',e1,b9Z hC hk hle hR e2⟩
 | .agg cs,v,h=>by
  simp only[frz,Rp]at*
  obtain⟨vs,e1,e2,e3⟩:=h
  exact⟨vs,e1,a8N hC hk hle hR e2,e3⟩
 | .tup ds,v,h=>by
  simp only[frz,Rp]at*
  obtain⟨vs,e1,e2⟩:=h
  exact⟨vs,e1,a8N hC hk hle hR e2⟩
theorem a8N(hC:s0 E R S H){k:Nat}{o:A2}(hk:S k=some o){R':Fz}(hle:R.le R')(hR:c3j o→R' k=some o.acs):∀ {ds:List D} {vs:List AV},s7 E R ds vs→s7 E R' (a0W k o ds) vs
 | [],vs,h=>by simp only[a0W,s7]at*;exact h
 |d::ds,vs,h=>by
  simp only[a0W,s7]at*
  obtain⟨v,ws,e1,e2,e3⟩:=h
  exact⟨v,ws,e1,b9Z hC hk hle hR e2,a8N hC hk hle hR e3⟩
end
theorem b9.frz{Q:D→b5→Prop}{d:D}{k:Nat}{o:A2}(hk:S k=Option.none)(h:b9 E Q (Am.frz k o d) S):b9 E Q d (S.set k o):=fun R H v hC hd=>by
 by_cases hc:c3j o
 ·obtain⟨h1,h2⟩:=hC.freeze (b5.set_same S k o) hc
  rw[b5.erase_set _ _ _ hk]at h1
  obtain⟨R',S',d',a,b,c,e⟩:=h _ H v h1 (b9Z hC (b5.set_same S k o) h2 (fun _=>if_pos rfl) hd)
  exact⟨R',S',d',Fz.le_trans h2 a,b,c,e⟩
 ·have h1:=hC.less (S':=S) fun j x e=>by
   rw[b5.set_ne]
   ·exact e
   ·rintro rfl;rw[hk]at e;cases e
  exact h R H v h1 (b9Z hC (b5.set_same S k o) (Fz.le_refl R) (fun h=>absurd h hc) hd)
def Wk(d d':D):Prop:=∀(E:g8) (R:Fz) (v:AV),Rp E R d v→Rp E R d' v
def WkL:List D→List D→Prop
 | [],[]=>True
 |d::ds,e::es=>Wk d e∧WkL ds es
 |_,_=>False
theorem Wk.refl(d:D):Wk d d:=fun _ _ _ h=>h
theorem Wk.any(d:D):Wk d .any:=fun _ _ _ _=>a8n
theorem Wk.nil(sz:Nat):Wk .nilSlc (.lst [] sz):=fun E R v h=>by simp only[Rp]at h ⊢;exact .inl ⟨by trivial,h⟩
theorem Wk.ext(rows more:List (List D))(sz:Nat):Wk (.ext rows more sz) (.lst rows sz):=fun E R v h=>by
 simp only[Rp]at h ⊢
 obtain⟨o,j,cap,ex,z,all,e1,e2,e3,e4,e5,e6,e7,e8,e9⟩:=h
 refine .inr ⟨o,j,cap,ex,z,e1,e2,by omega,e4, ?_⟩
 rcases e6 with e6|⟨e6,_⟩
 rotate_left
 ·exact .inl e6
 refine .inr ⟨all,e6,e7, ?_⟩
 have:=G8 e9 (rows.length*sz)
 rw[List.take_take,Nat.min_eq_left (Nat.mul_le_mul_right _ (by omega))]at this
 exact this
theorem DF.split{f:FuncId}{sz:Nat}{pre post:List D}{S:b5}{Q:D→b5→Prop}(h1:p8 P E w0 f (pre++ .nilSlc::post) S Q)(h2:p8 P E w0 f (pre++ .ext [] [] sz::post) S Q):p8 P E w0 f (pre++ .lst [] sz::post) S Q:=fun R H avs hF hC ha=>by
 obtain⟨v1,v2,rfl,g1,g2⟩:=a1H ha
 simp only[s7]at g2
 obtain⟨w,ws,rfl,g3,g4⟩:=g2
 simp only[Rp]at g3
 rcases g3 with ⟨_,rfl⟩|⟨o,j,cap,ex,z,rfl,f1,f2,_,_⟩
 ·exact h1 R H _ hF hC (g1.append (q9 (by simp only[Rp]) g4))
 ·refine h2 R H _ hF hC (g1.append (q9 ?_ g4))
  simp only[Rp]
  exact⟨o,j,cap,ex,z,[],rfl,f1,by simp,by simp,by simp,by simp,by simp[a0b],by simp[a0b],by simp⟩
theorem WkL.refl:∀ds:List D,WkL ds ds
 | []=>trivial
 |d::ds=>⟨Wk.refl d,WkL.refl ds⟩
theorem WkL.ok:∀ {ds es:List D},WkL ds es→∀ {E:g8} {R:Fz} {vs:List AV},s7 E R ds vs→s7 E R es vs
 | [],[],_,E,R,vs,h=>h
 |d::ds,e::es,w,E,R,vs,h=>by
  simp only[s7]at h ⊢
  obtain⟨v,ws,e1,e2,e3⟩:=h
  exact⟨v,ws,e1,w.1 _ _ _ e2,WkL.ok w.2 e3⟩
 | [],_::_,w,_,_,_,_=>w.elim
 |_::_,[],w,_,_,_,_=>w.elim
theorem Wk.agg{ds es:List D}(w:WkL ds es):Wk (.agg ds) (.agg es):=fun E R v h=>by
 simp only[Rp]at h ⊢
 obtain⟨vs,e1,e2,e3⟩:=h
 exact⟨vs,e1,w.ok e2,e3⟩
theorem Wk.tup{ds es:List D}(w:WkL ds es):Wk (.tup ds) (.tup es):=fun E R v h=>by
 simp only[Rp]at h ⊢
 obtain⟨vs,e1,e2⟩:=h
 exact⟨vs,e1,w.ok e2⟩
theorem b9.weak{Q:D→b5→Prop}{d d':D}(w:Wk d d')(h:b9 E Q d' S):b9 E Q d S:=fun R H v hC hd=>h R H v hC (w _ _ _ hd)
theorem DF.weak{f:FuncId}{ds es:List D}{Q:D→b5→Prop}(w:WkL ds es)(h:p8 P E w0 f es S Q):p8 P E w0 f ds S Q:=fun R H avs hF hC ha=>h R H avs hF hC (w.ok ha)
theorem b9.drop{Q:D→b5→Prop}{d:D}{k:Nat}{o:A2}(hk:S k=Option.none)(h:b9 E Q d S):b9 E Q d (S.set k o):=b9.less (b5.le_new hk) h
theorem b9.pure{d:D}:b9 E (fun d' S'=>d'=d∧S'=S) d S:=b9.here ⟨rfl,rfl⟩
theorem c4T{k i len cap sz:Nat}{ex:Bool}{rows:List (List D)}{acs:List AV}(h:i+len≤rows.length)(hc:len≤cap):Am.frz k ⟨sz,rows,acs⟩ (.raw k i len cap ex sz)= .lst ((rows.drop i).take len) sz:=by
 simp only[Am.frz,if_true];rw[if_pos ⟨by trivial,h,hc⟩]
end
end Go.Am
end
section
open Go.Proofs Go Go.Am Go.Op
namespace Go.Proofs.Ytdkidgkiplcggaa.d
section
section
variable{E:g8}{w0:j0}
theorem c0j{w:Int}:U2 Try.prog E w0 a7i [.int .u8 w] (.int .i64 (R3 w)):=fun S=>by
 refine b6K ?_
 unfold b3S R3
 simp only[a2Z,oD,cdB,beq_iff_eq,beq_eq_false_iff_ne,ne_eq]
 refine⟨fun h=> ?_,fun h1=>⟨fun h=> ?_,fun h2=>⟨fun h=> ?_,fun h3=> ?_⟩⟩⟩<;>simp only[*,if_true,if_false]<;>exact b9.pure
theorem c0c{w n:Int}:U2 Try.prog E w0 a7W [.int .u8 w, .int .i64 n] (.int .i64 (b9b w n)):=fun S=>by
 refine b7w ?_
 unfold b3M b9b
 simp only[a2Z,oD,cdB,beq_iff_eq,beq_eq_false_iff_ne,ne_eq,cvI]
 refine⟨fun h=> ?_,fun h1=>⟨fun h=> ?_,fun h2=>⟨fun h=> ?_,fun h3=> ?_⟩⟩⟩<;>simp only[*,if_true,if_false]<;>exact b9.pure
theorem c7X(n:Int):IntKind.i8.wrap n=if 128≤n % 256 then n % 256 - 256 else n % 256:=by
 simp only[IntKind.wrap,IntKind.bits,IntKind.signed];simp
theorem c7C(n:Int):IntKind.i32.wrap n=if 2147483648≤n % 4294967296 then n % 4294967296 - 4294967296 else n % 4294967296:=by
 simp only[IntKind.wrap,IntKind.bits,IntKind.signed];simp
theorem c6M{w n:Int}(hn:I64 n):(0<R3 w∧b9b w n=n)↔(a0Y w≤n∧n≤a1a w):=by
 obtain⟨h0,h1⟩:=hn
 unfold R3 b9b a0Y a1a
 by_cases w1:w=1
 ·simp only[if_pos w1]
  rw[c7X,i6 (by split<;>omega) (by split<;>omega)]
  split<;>constructor<;>omega
 simp only[if_neg w1]
 by_cases w2:w=2
 ·simp only[if_pos w2]
  rw[c7C,i6 (by split<;>omega) (by split<;>omega)]
  split<;>constructor<;>omega
 simp only[if_neg w2]
 by_cases w3:w=3
 ·simp only[if_pos w3];exact⟨fun _=>⟨h0,h1⟩,fun _=>⟨by decide,by trivial⟩⟩
 simp only[if_neg w3];constructor<;>omega
theorem c0R{w n:Int}(hn:I64 n):U2 Try.prog E w0 a7A [.int .u8 w, .int .i64 n] (.bool (decide (a0Y w≤n∧n≤a1a w))):=fun S=>by
 refine b6I ?_
 unfold b4h
 refine c0j.use ?_
 have hi:=c6M (w:=w) hn
 by_cases hb:R3 w>0
 ·simp[hb]
  refine c0c.use ?_
  have e:(b9b w n==n)=decide (a0Y w≤n∧n≤a1a w):=by
   by_cases hw:b9b w n=n
   ·rw[decide_eq_true (hi.1 ⟨hb,hw⟩),hw];simp
   ·rw[decide_eq_false (fun h=>hw (hi.2 h).2)];simpa using hw
  simp[e]
  exact b9.pure
 ·have e:decide (a0Y w≤n∧n≤a1a w)=false:=decide_eq_false fun h=>hb (hi.2 h).1
  rw[e]
  simp[hb]
  exact b9.pure
def a0p(lo hi:Int):D:= .fn (.func Q5) [] [.elt [.int .i64 lo] 0, .elt [.int .i64 hi] 0]
def a8Y(w:Int):D:= .fn (.func a1m) [] [.elt [.int .u8 w] 0]
theorem E0{lo hi:Int}:U2 Try.prog E w0 p6 [.int .i64 lo, .int .i64 hi] (a0p lo hi):=fun S=>by
 refine b3m ?_
 unfold a9C
 simp only[clI,oD]
 intro k acs hk k2 acs2 hk2
 obtain⟨hne,hk20⟩:=b5.fresh hk2
 refine b9.frz hk2 (b9.frz hk ?_)
 simp only[Am.frz,a0W,if_true,if_neg hne,if_neg (Ne.symm hne)]
 exact b9.pure
theorem a0O{w:Int}:U2 Try.prog E w0 B4 [.int .u8 w] (a8Y w):=fun S=>by
 refine b7W ?_
 unfold b6i
 simp only[clI,oD]
 intro k acs hk
 refine b9.frz hk ?_
 simp only[Am.frz,a0W,if_true]
 exact b9.pure
theorem b3s{lo hi n:Int}:U2 Try.prog E w0 Q5 [.int .i64 n, .elt [.int .i64 lo] 0, .elt [.int .i64 hi] 0] (.bool (decide (lo≤n∧n≤hi))):=fun S=>by
 refine a9R ?_
 unfold a6P
 by_cases h:lo≤n<;>simp[h]<;>exact b9.pure
theorem b8s{w n:Int}(hn:I64 n):U2 Try.prog E w0 a1m [.int .i64 n, .elt [.int .u8 w] 0] (.bool (decide (a0Y w≤n∧n≤a1a w))):=fun S=>by
 refine b4K ?_
 unfold b1O
 simp only[lsE,List.getElem?_cons_zero,oD]
 exact(c0R hn).use b9.pure
end
end
section
def bD(bs:List Int):D:= .lst (J5 (bs.map (D.int .u8))) 1
theorem b8B{bs:List Int}{i:Nat}{b:Int}(h:bs[i]? =some b):j5 1 (bD bs) (.int .i64 (i:Int))=some (.elt [.int .u8 b] 0):=
 b9u (c1Z (by rw[List.getElem?_map,h];rfl))
@[simp] theorem a2u(bs:List Int):j9 (bD bs)=some (.int .i64 bs.length):=by simp[bD]
@[simp] theorem c8x(S:b5)(bs:List Int):rowsS S 1 (bD bs)=some (J5 (bs.map (D.int .u8))):=by simp[bD,rowsS,C1]
theorem c7b(l:List D)(i:Nat)(d:D):(J5 l).set i [d]=J5 (l.set i d):=by simp[J5,List.map_set]
theorem b5j{a:Nat}(h:a<2^64):IntKind.u64.wrap (a:Int)=a:=by rw[c1v];omega
theorem b3K{w a:Nat}:(BitVec.ofInt w (a:Int)).toNat=a % 2^w:=by simp
theorem c7d{a b:Nat}(ha:a<2^64)(hb:b<2^64):d5 .or (.int .u64 (a:Int)) (.int .u64 (b:Int))=some (.int .u64 ((a ||| b:Nat):Int)):=by
 rw[d1B]
 show some (D.int .u64 (IntKind.u64.wrap ((BitVec.ofInt 64 (a:Int) ||| BitVec.ofInt 64 (b:Int)).toNat:Int)))=_
 rw[BitVec.toNat_or,b3K,b3K,Nat.mod_eq_of_lt ha,Nat.mod_eq_of_lt hb,b5j (Nat.or_lt_two_pow ha hb)]
theorem c7R{a i:Nat}(hi:i≤64):d5 .shr (.int .u64 (a:Int)) (.int .i64 (i:Int))=some (.int .u64 ((a / 2^i:Nat):Int)):=by
 rw[d0q _ _ _ _ (by omega),Int.toNat_natCast,show IntKind.u64.bits=64 from rfl,Nat.min_eq_left hi,Int.fdiv_eq_ediv_of_nonneg _ (Int.le_of_lt (Int.pow_pos (by decide)))]
 simp
theorem c0o{a i:Nat}(hi:i≤64)(h:a*2^i<2^64):d5 .shl (.int .u64 (a:Int)) (.int .i64 (i:Int))=some (.int .u64 ((a*2^i:Nat):Int)):=by
 rw[c4Q _ _ _ _ (by omega),Int.toNat_natCast,show IntKind.u64.bits=64 from rfl,Nat.min_eq_left hi]
 have e:(a:Int)*2^i=((a*2^i:Nat):Int):=by simp
 rw[e,b5j h]
theorem c6G{a b i:Nat}(h:a<2^i):a ||| (b*2^i)=a+b*2^i:=by
 have:=Nat.two_pow_add_eq_or_of_lt h b
 rw[Nat.or_comm,Nat.mul_comm b, ←this,Nat.add_comm]
section
variable{E:g8}{w0:j0}
theorem c0X{bs:List Int}(hb:∀b∈bs,J0 b)(hl:bs.length<2^60){p s:Nat}(hp:p≤bs.length)(h1:1≤s)(h8:s≤8):U2 Try.prog E w0 a8f [bD bs, .int .i64 (p:Int), .int .i64 (s:Int)]
  (if bs.length<p+s then .tup [.int .u64 0, .int .i64 0, .int .i64 10]else .tup [.int .u64 (leN ((bs.drop p).take s):Nat), .int .i64 ((p+s:Nat):Int), .int .i64 0]):=fun S=>by
 refine b5w ?_
 unfold b3R
 have c1:decide ((s:Int)<1)=false:=decide_eq_false (by omega)
 have c2:decide ((s:Int)>8)=false:=decide_eq_false (by omega)
 have c3:decide ((p:Int)<0)=false:=decide_eq_false (by omega)
 have c4:decide ((p:Int)>bs.length)=false:=decide_eq_false (by omega)
 simp only[M7,a8g,oD,c1,c2,c3,cdF,a2u,c4]
 unfold a0t
 simp only[cdF,a2u,oD,a0M,a8g]
 rw[i6 (by omega) (by omega),V7]
 refine⟨fun hs=> ?_,fun hs=> ?_⟩
 ·rw[if_pos (by omega)];exact b9.pure
 rw[if_neg (by omega)]
 refine b2T (I:=fun n x0 x1 x2 x9 x29 x30 S'=>S'=S∧x0=bD bs∧x1= .int .i64 (p:Int)∧x2= .int .i64 (s:Int)∧x29= .int .i64 (s:Int)∧∃i:Nat,x30= .int .i64 (i:Int)∧i+n=s∧x9= .int .u64 ((leN ((bs.drop p).take i):Nat):Int)) ?_ (n:=s)
  ⟨rfl,rfl,rfl,rfl,rfl,0,rfl,by omega,rfl⟩
 rintro n _ _ _ _ _ _ _ ⟨rfl,rfl,rfl,rfl,rfl,i,rfl,hi,rfl⟩
 unfold a4W
 rw[M7,oD,V7]
 refine⟨fun hlt=> ?_,fun hge=> ?_⟩
 ·have hlt2:p+i<bs.length:=by omega
  obtain⟨y,hy⟩:∃y,y=bs[p+i]:=⟨_,rfl⟩
  have hj:bs[p+i]? =some y:=by rw[List.getElem?_eq_getElem hlt2,hy]
  obtain⟨b0,b1⟩:=hb y (by rw[hy];exact List.getElem_mem _)
  obtain⟨xn,hxn⟩:∃xn:Nat,y=(xn:Int):=⟨y.toNat,by omega⟩
  have hbs:∀b∈(bs.drop p).take i,J0 b:=fun b hb'=>hb b (List.mem_of_mem_drop (List.mem_of_mem_take hb'))
  have hlen:((bs.drop p).take i).length=i:=by rw[List.length_take,List.length_drop];omega
  have e3:=a7M hbs
  rw[hlen]at e3
  have htk:(bs.drop p).take (i+1)=(bs.drop p).take i++[y]:=by
   rw[List.take_add_one,List.getElem?_drop,hj];rfl
  have hsn:=b7m ((bs.drop p).take i) y
  rw[←htk,hlen]at hsn
  have e4:=a7M (l:=(bs.drop p).take (i+1)) fun b hb'=>hb b (List.mem_of_mem_drop (List.mem_of_mem_take hb'))
  rw[show((bs.drop p).take (i+1)).length=i+1 by rw[List.length_take,List.length_drop];omega]at e4
  have h3:2^(8*(i+1))≤2^64:=Nat.pow_le_pow_right (by decide) (by omega)
  have h4:2^(8*i)≤2^64:=Nat.pow_le_pow_right (by decide) (by omega)
  have hxt:y.toNat=xn:=by omega
  rw[hxt]at hsn
  rw[C4,oD,i6 (by omega) (by omega),show(p:Int)+(i:Int)=((p+i:Nat):Int) by omega,b8B hj,oD,lsE,List.getElem?_cons_zero,oD,cvI,oD,hxn,b5j (by omega),c4C,oD,i6 (by omega) (by omega),
   show 8*(i:Int)=((8*i:Nat):Int) by omega,c0o (by omega) (by omega),oD,c7d (by omega) (by omega),oD,c6G e3,C4,oD,i6 (by omega) (by omega)]
  exact⟨n - 1,by omega,rfl,rfl,rfl,rfl,rfl,i+1,by simp,by omega,by simp only[hsn]⟩
 ·obtain rfl:i=s:=by omega
  rw[C4,oD,i6 (by omega) (by omega),show(p:Int)+(i:Int)=((p+i:Nat):Int) by omega]
  exact b9.pure
end
end
end Go.Proofs.Ytdkidgkiplcggaa.d
end
section
open Go.Proofs Go Go.Am
namespace Go.Proofs.Ytdkidgkiplcggaa.d
def E7:List (Nat×List Nat):=[]
def F0:List (Nat×List Nat):=[(89,[0,4,5,6,13,29]),(101,[0,4,5,6,13,44]),(113,[0,5,6,13,50]),(137,[0,5,6,13,61])]
def E9:List (Nat×Arr):=[]
noncomputable def b2N:Code:=(i9 [1,1,1,0,1,0,1,1,1,1,1,1,1,1,1,1,1,1,1,1,1] (Try.f60.body.getD .skip))
def b1j(E:g8)(w0:j0)(Q:D→b5→Prop):j7→List D→b5→Prop:=
 (p5 0 (L4 Try.prog E w0 E7 F0 E9 (i9 [1,1,1,1] (Try.f60.body.getD .skip)) (F5 Try.prog Try.f60 Q)))
def a5O(E:g8)(w0:j0)(Q:D→b5→Prop)(x0 x5 x6 x13 x61:D)(S:b5):Prop:=
 i5 x61
 (b4 (l9 S 2 x5) fun v56=>
 C7 S 2 (o7 2 (List.replicate 1 [(.int .i64 0), .nilFn]) [(0,v56)]) 1 fun v57 S58=>
 Q (.tup [v57,(.bool true)]) S58)
 (b4 (d5 .eql x13 (.int .u8 52)) fun v59=>
 i5 v59
 (p8 Try.prog E w0 p6 [(.int .i64 0),(.int .i64 255)] S fun v60 S61=>
 b4 (B3 (l8 [(.int .i64 0), .nilFn] [(0,1,(.int .i64 1)),(1,1,v60)])) fun v62=>
 C7 S61 2 (o7 2 (List.replicate 1 [(.int .i64 0), .nilFn]) [(0,v62)]) 1 fun v63 S64=>
 Q (.tup [v63,(.bool true)]) S64)
 (b4 (d5 .eql x13 (.int .u8 49)) fun v65=>
 i5 v65
 (b4 (l9 S 2 x6) fun v66=>
 C7 S 2 (o7 2 (List.replicate 1 [(.int .i64 0), .nilFn]) [(0,v66)]) 1 fun v67 S68=>
 Q (.tup [v67,(.bool true)]) S68)
 (b4 (d5 .geq x0 (.int .u8 11)) fun v69=>
 b4 (d6 (b8 v69 true) (some x0)) fun v70=>
 b4 (d6 (b8 v69 true) (d5 .leq v70 (.int .u8 28))) fun v71=>
 b4 (y9 v69 v71 (.bool false)) fun v72=>
 i5 v72
 (b4 (l9 S 2 x6) fun v73=>
 C7 S 2 (o7 2 (List.replicate 1 [(.int .i64 0), .nilFn]) [(0,v73)]) 1 fun v74 S75=>
 Q (.tup [v74,(.bool true)]) S75)
 (b4 (d5 .geq x0 (.int .u8 1)) fun v76=>
 b4 (d6 (b8 v76 true) (some x0)) fun v77=>
 b4 (d6 (b8 v76 true) (d5 .leq v77 (.int .u8 52))) fun v78=>
 b4 (y9 v76 v78 (.bool false)) fun v79=>
 Q (.tup [.nilSlc,v79]) S))))
def N5(E:g8)(w0:j0)(Q:D→b5→Prop)(x0 x5 x6 x13 x61:D)(S:b5):Prop:=f9 Try.prog E w0 b2N (i7 90 [0,5,6,13,61] [x0,x5,x6,x13,x61]) S (b1j E w0 Q)
theorem a9b{E:g8}{w0:j0}{Q:D→b5→Prop}{x0 x5 x6 x13 x61:D}{S:b5}(h:a5O E w0 Q x0 x5 x6 x13 x61 S):N5 E w0 Q x0 x5 x6 x13 x61 S:=g9 E7 F0 E9 mixed (by kernel_rfl) h
noncomputable def b3t:Code:=(i9 [1,1,1,0,1,0,1,1,1,1,1,1,1,1,1,1,1] (Try.f60.body.getD .skip))
def b1J(E:g8)(w0:j0)(Q:D→b5→Prop):j7→List D→b5→Prop:=
 (p5 0 (L4 Try.prog E w0 E7 F0 E9 (i9 [1,1,1,1] (Try.f60.body.getD .skip)) (F5 Try.prog Try.f60 Q)))
def a5r(E:g8)(w0:j0)(Q:D→b5→Prop)(x0 x5 x6 x13 x50:D)(S:b5):Prop:=
 i5 x50
 (p8 Try.prog E w0 p6 [(.int .i64 1),(.int .i64 5)] S fun v46 S47=>
 b4 (B3 (l8 [(.int .i64 0), .nilFn] [(0,1,(.int .i64 1)),(1,1,v46)])) fun v48=>
 C7 S47 2 (o7 2 (List.replicate 1 [(.int .i64 0), .nilFn]) [(0,v48)]) 1 fun v49 S50=>
 Q (.tup [v49,(.bool true)]) S50)
 (b4 (d5 .eql x13 (.int .u8 29)) fun v51=>
 i5 v51
 (b4 (l9 S 2 x6) fun v52=>
 b4 (l9 S 2 x6) fun v53=>
 C7 S 2 (o7 2 (List.replicate 2 [(.int .i64 0), .nilFn]) [(0,v52),(1,v53)]) 2 fun v54 S55=>
 Q (.tup [v54,(.bool true)]) S55)
 (b4 (d5 .eql x13 (.int .u8 46)) fun v80=>
 i5 v80
 (N5 E w0 Q x0 x5 x6 x13 v80 S)
 (b4 (d5 .eql x13 (.int .u8 47)) fun v81=>
 i5 v81
 (N5 E w0 Q x0 x5 x6 x13 v81 S)
 (b4 (d5 .eql x13 (.int .u8 48)) fun v82=>
 N5 E w0 Q x0 x5 x6 x13 v82 S))))
def Z4(E:g8)(w0:j0)(Q:D→b5→Prop)(x0 x5 x6 x13 x50:D)(S:b5):Prop:=f9 Try.prog E w0 b3t (i7 90 [0,5,6,13,50] [x0,x5,x6,x13,x50]) S (b1J E w0 Q)
theorem a9e{E:g8}{w0:j0}{Q:D→b5→Prop}{x0 x5 x6 x13 x50:D}{S:b5}(h:a5r E w0 Q x0 x5 x6 x13 x50 S):Z4 E w0 Q x0 x5 x6 x13 x50 S:=g9 E7 F0 E9 mixed (by kernel_rfl) h
noncomputable def b2S:Code:=(i9 [1,1,1,0,1,0,1,1,1,1,1,1,1,1,1] (Try.f60.body.getD .skip))
def b2j(E:g8)(w0:j0)(Q:D→b5→Prop):j7→List D→b5→Prop:=
 (p5 0 (L4 Try.prog E w0 E7 F0 E9 (i9 [1,1,1,1] (Try.f60.body.getD .skip)) (F5 Try.prog Try.f60 Q)))
def a5p(E:g8)(w0:j0)(Q:D→b5→Prop)(x0 x4 x5 x6 x13 x44:D)(S:b5):Prop:=
 i5 x44
 (b4 (l9 S 2 x4) fun v42=>
 b4 (l9 S 2 x4) fun v43=>
 C7 S 2 (o7 2 (List.replicate 2 [(.int .i64 0), .nilFn]) [(0,v42),(1,v43)]) 2 fun v44 S45=>
 Q (.tup [v44,(.bool true)]) S45)
 (b4 (d5 .eql x13 (.int .u8 23)) fun v83=>
 i5 v83
 (Z4 E w0 Q x0 x5 x6 x13 v83 S)
 (b4 (d5 .eql x13 (.int .u8 24)) fun v84=>
 Z4 E w0 Q x0 x5 x6 x13 v84 S))
def Z6(E:g8)(w0:j0)(Q:D→b5→Prop)(x0 x4 x5 x6 x13 x44:D)(S:b5):Prop:=f9 Try.prog E w0 b2S (i7 90 [0,4,5,6,13,44] [x0,x4,x5,x6,x13,x44]) S (b2j E w0 Q)
theorem a8W{E:g8}{w0:j0}{Q:D→b5→Prop}{x0 x4 x5 x6 x13 x44:D}{S:b5}(h:a5p E w0 Q x0 x4 x5 x6 x13 x44 S):Z6 E w0 Q x0 x4 x5 x6 x13 x44 S:=g9 E7 F0 E9 mixed (by kernel_rfl) h
noncomputable def b4Z:Code:=(i9 [1,1,1,0,1,0,1,1,1,1,1,1,1] (Try.f60.body.getD .skip))
def b2J(E:g8)(w0:j0)(Q:D→b5→Prop):j7→List D→b5→Prop:=
 (p5 0 (L4 Try.prog E w0 E7 F0 E9 (i9 [1,1,1,1] (Try.f60.body.getD .skip)) (F5 Try.prog Try.f60 Q)))
def a6T(E:g8)(w0:j0)(Q:D→b5→Prop)(x0 x4 x5 x6 x13 x29:D)(S:b5):Prop:=
 i5 x29
 (b4 (l9 S 2 x4) fun v39=>
 C7 S 2 (o7 2 (List.replicate 1 [(.int .i64 0), .nilFn]) [(0,v39)]) 1 fun v40 S41=>
 Q (.tup [v40,(.bool true)]) S41)
 (b4 (d5 .eql x13 (.int .u8 37)) fun v85=>
 i5 v85
 (Z6 E w0 Q x0 x4 x5 x6 x13 v85 S)
 (b4 (d5 .eql x13 (.int .u8 38)) fun v86=>
 Z6 E w0 Q x0 x4 x5 x6 x13 v86 S))
def r9(E:g8)(w0:j0)(Q:D→b5→Prop)(x0 x4 x5 x6 x13 x29:D)(S:b5):Prop:=f9 Try.prog E w0 b4Z (i7 90 [0,4,5,6,13,29] [x0,x4,x5,x6,x13,x29]) S (b2J E w0 Q)
theorem b0B{E:g8}{w0:j0}{Q:D→b5→Prop}{x0 x4 x5 x6 x13 x29:D}{S:b5}(h:a6T E w0 Q x0 x4 x5 x6 x13 x29 S):r9 E w0 Q x0 x4 x5 x6 x13 x29 S:=g9 E7 F0 E9 mixed (by kernel_rfl) h
def b1H(E:g8)(w0:j0)(Q:D→b5→Prop)(a0:D)(S:b5):Prop:=
 p8 Try.prog E w0 p6 [(.int .i64 0),(.int .i64 65535)] S fun v0 S1=>
 b4 (B3 (l8 [(.int .i64 0), .nilFn] [(0,1,(.int .i64 2)),(1,1,v0)])) fun v2=>
 p8 Try.prog E w0 p6 [(.int .i64 0),(.int .i64 4294967295)] S1 fun v3 S4=>
 b4 (B3 (l8 [(.int .i64 0), .nilFn] [(0,1,(.int .i64 4)),(1,1,v3)])) fun v5=>
 o6 S4 [(.int .i64 0), .nilFn] fun v6 S7=>
 o6 S7 [(.int .i64 0), .nilFn] fun v8 S9=>
 j1 S9 2 v6 v2 fun v10 S11=>
 j1 S11 2 v8 v5 fun v12 S13=>
 p8 Try.prog E w0 p6 [(.int .i64 1),(.int .i64 3)] S13 fun v14 S15=>
 b4 (B3 (l8 [(.int .i64 0), .nilFn] [(0,1,(.int .i64 1)),(1,1,v14)])) fun v16=>
 o6 S15 [(.int .i64 0), .nilFn] fun v17 S18=>
 j1 S18 2 v17 v16 fun v19 S20=>
 b4 (d5 .eql a0 (.int .u8 1)) fun v21=>
 i5 v21
 (p8 Try.prog E w0 B4 [(.int .u8 1)] S20 fun v22 S23=>
 b4 (B3 (l8 [(.int .i64 0), .nilFn] [(0,1,(.int .i64 1)),(1,1,v22)])) fun v24=>
 C7 S23 2 (o7 2 (List.replicate 1 [(.int .i64 0), .nilFn]) [(0,v24)]) 1 fun v25 S26=>
 Q (.tup [v25,(.bool true)]) S26)
 (b4 (d5 .eql a0 (.int .u8 2)) fun v27=>
 i5 v27
 (p8 Try.prog E w0 B4 [(.int .u8 2)] S20 fun v28 S29=>
 b4 (B3 (l8 [(.int .i64 0), .nilFn] [(0,1,(.int .i64 4)),(1,1,v28)])) fun v30=>
 C7 S29 2 (o7 2 (List.replicate 1 [(.int .i64 0), .nilFn]) [(0,v30)]) 1 fun v31 S32=>
 Q (.tup [v31,(.bool true)]) S32)
 (b4 (d5 .eql a0 (.int .u8 3)) fun v33=>
 i5 v33
 (p8 Try.prog E w0 B4 [(.int .u8 3)] S20 fun v34 S35=>
 b4 (B3 (l8 [(.int .i64 0), .nilFn] [(0,1,(.int .i64 8)),(1,1,v34)])) fun v36=>
 C7 S35 2 (o7 2 (List.replicate 1 [(.int .i64 0), .nilFn]) [(0,v36)]) 1 fun v37 S38=>
 Q (.tup [v37,(.bool true)]) S38)
 (b4 (d5 .eql a0 (.int .u8 6)) fun v87=>
 i5 v87
 (r9 E w0 Q a0 v6 v8 v17 a0 v87 S20)
 (b4 (d5 .eql a0 (.int .u8 7)) fun v88=>
 i5 v88
 (r9 E w0 Q a0 v6 v8 v17 a0 v88 S20)
 (b4 (d5 .eql a0 (.int .u8 8)) fun v89=>
 i5 v89
 (r9 E w0 Q a0 v6 v8 v17 a0 v89 S20)
 (b4 (d5 .eql a0 (.int .u8 50)) fun v90=>
 i5 v90
 (r9 E w0 Q a0 v6 v8 v17 a0 v90 S20)
 (b4 (d5 .eql a0 (.int .u8 36)) fun v91=>
 i5 v91
 (r9 E w0 Q a0 v6 v8 v17 a0 v91 S20)
 (b4 (d5 .eql a0 (.int .u8 39)) fun v92=>
 i5 v92
 (r9 E w0 Q a0 v6 v8 v17 a0 v92 S20)
 (b4 (d5 .eql a0 (.int .u8 40)) fun v93=>
 i5 v93
 (r9 E w0 Q a0 v6 v8 v17 a0 v93 S20)
 (b4 (d5 .eql a0 (.int .u8 41)) fun v94=>
 i5 v94
 (r9 E w0 Q a0 v6 v8 v17 a0 v94 S20)
 (b4 (d5 .eql a0 (.int .u8 42)) fun v95=>
 i5 v95
 (r9 E w0 Q a0 v6 v8 v17 a0 v95 S20)
 (b4 (d5 .eql a0 (.int .u8 43)) fun v96=>
 i5 v96
 (r9 E w0 Q a0 v6 v8 v17 a0 v96 S20)
 (b4 (d5 .eql a0 (.int .u8 44)) fun v97=>
 i5 v97
 (r9 E w0 Q a0 v6 v8 v17 a0 v97 S20)
 (b4 (d5 .eql a0 (.int .u8 45)) fun v98=>
 r9 E w0 Q a0 v6 v8 v17 a0 v98 S20))))))))))))))
theorem b4G{E:g8}{w0:j0}{Q:D→b5→Prop}{a0:D}{S:b5}(h:b1H E w0 (b9 E Q) a0 S):p8 Try.prog E w0 a6u [a0] S Q:=
 j6 E7 F0 E9 (fn:=Try.f60) (c:=Try.f60.body.getD .skip) mixed Try.func60 (by kernel_rfl) (by kernel_rfl) h
end Go.Proofs.Ytdkidgkiplcggaa.d
end
section
open Go.Proofs Go Go.Am Go.Op
namespace Go.Proofs.Ytdkidgkiplcggaa.d
section
def fR(l:List Fld):List (List D):=l.map fun f=>[.int .i64 (f.size:Int),a0p f.lo f.hi]
def a7R(op:Int):List (List D):=if op=1 then[[.int .i64 1,a8Y 1]]else if op=2 then[[.int .i64 4,a8Y 2]]else if op=3 then[[.int .i64 8,a8Y 3]]else fR ((lay op).getD [])
section
variable{E:g8}{w0:j0}{S:b5}{Q:D→b5→Prop}{k4 k5 k6:Nat}{a4 a5 a6:List AV}{op:Int}{b:Bool}
theorem a3Q{n:Int}{v:D}(h:s5 v=some [v]):B3 (l8 [(.int .i64 0), .nilFn] [(0,1,(.int .i64 n)),(1,1,v)])=some (.agg [.int .i64 n,v]):=by
 simp[l8,h,j4]
@[simp] theorem b2d(lo hi:Int):s5 (a0p lo hi)=some [a0p lo hi]:=(rfl)
@[simp] theorem b8C(w:Int):s5 (a8Y w)=some [a8Y w]:=(rfl)
theorem a2O{n:Int}{v:D}{K:D→b5→Prop}(h:K (.lst [[.int .i64 n,v]] 2) S):C7 S 2 (o7 2 (List.replicate 1 [(.int .i64 0), .nilFn]) [(0, .agg [.int .i64 n,v])]) 1 K:=by
 simp only[o7,clA,List.length_cons,List.length_nil,List.replicate,List.set]
 rw[if_pos (by decide)]
 exact E8 rfl h
theorem c4t{n:Int}{v:D}{K:D→b5→Prop}(h:K (.lst [[.int .i64 n,v],[.int .i64 n,v]] 2) S):C7 S 2 (o7 2 (List.replicate 2 [(.int .i64 0), .nilFn]) [(0, .agg [.int .i64 n,v]),(1, .agg [.int .i64 n,v])]) 2 K:=by
 simp only[o7,clA,List.length_cons,List.length_nil,List.replicate,List.set]
 rw[if_pos (by decide),if_pos (by decide)]
 exact E8 rfl h
theorem bx{k:Nat}{n:Int}{v:D}{acs:List AV}(h:S k=some ⟨2,[[.int .i64 n,v]],acs⟩):l9 S 2 (.ptr k 0)=some (.agg [.int .i64 n,v]):=laP h ⟨by decide,by simp⟩
theorem c3H(h5:S k5=some ⟨2,[[.int .i64 4,a0p 0 4294967295]],a5⟩)(h6:S k6=some ⟨2,[[.int .i64 1,a0p 1 3]],a6⟩)(hQ:b9 E Q (.tup [.lst (fR ((c3G b op).getD [])) 2, .bool (c3G b op).isSome]) S):
  N5 E w0 (b9 E Q) (.int .u8 op) (.ptr k5 0) (.ptr k6 0) (.int .u8 op) (.bool b) S:=by
 refine a9b ?_
 unfold a5O
 unfold c3G at hQ
 have nilq:b9 E Q (.tup [.lst [] 2, .bool true]) S→b9 E Q (.tup [.nilSlc, .bool true]) S:=fun h=>b9.nilT (lp:=[]) (sz:=2) h
 have nilf:b9 E Q (.tup [.lst [] 2, .bool false]) S→b9 E Q (.tup [.nilSlc, .bool false]) S:=fun h=>b9.nilT (lp:=[]) (sz:=2) h
 cases b with
 |true=>rw[cdT,bx h5,oD];exact a2O hQ
 |false=>
  rw[cdF,a2Z,oD,cdB]
  simp only[Bool.false_eq_true,if_false]at hQ
  refine⟨fun h=> ?_,fun h=> ?_⟩
  ·rw[if_pos (by simpa using h)]at hQ
   refine E0.use ?_
   rw[a3Q (b2d _ _),oD]
   exact a2O hQ
  rw[if_neg (by simpa using h)]at hQ
  rw[a2Z,oD,cdB]
  refine⟨fun h=> ?_,fun h=> ?_⟩
  ·rw[if_pos (by simpa using h)]at hQ;rw[bx h6,oD];exact a2O hQ
  rw[if_neg (by simpa using h)]at hQ
  by_cases h1:11≤op
  ·by_cases h2:op≤28
   ·rw[if_pos ⟨h1,h2⟩]at hQ
    simp[h1,h2,bx h6]
    exact a2O hQ
   ·rw[if_neg (by omega)]at hQ
    simp[h1,h2]
    by_cases h3:op≤52
    ·rw[if_pos (by omega)]at hQ
     simp[show(1:Int)≤op by omega,h3]
     exact nilq hQ
    ·rw[if_neg (by omega)]at hQ
     simp[show(1:Int)≤op by omega,h3]
     exact nilf hQ
  ·rw[if_neg (by omega)]at hQ
   simp[h1]
   by_cases h3:1≤op
   ·rw[if_pos (by omega)]at hQ
    simp[h3,show op≤52 by omega]
    exact nilq hQ
   ·rw[if_neg (by omega)]at hQ
    simp[h3]
    exact nilf hQ
theorem c6A(h5:S k5=some ⟨2,[[.int .i64 4,a0p 0 4294967295]],a5⟩)(h6:S k6=some ⟨2,[[.int .i64 1,a0p 1 3]],a6⟩)(hQ:b9 E Q (.tup [.lst (fR ((c3O b op).getD [])) 2, .bool (c3O b op).isSome]) S):
  Z4 E w0 (b9 E Q) (.int .u8 op) (.ptr k5 0) (.ptr k6 0) (.int .u8 op) (.bool b) S:=by
 refine a9e ?_
 unfold a5r
 unfold c3O at hQ
 cases b with
 |true=>
  rw[cdT]
  refine E0.use ?_
  rw[a3Q (b2d _ _),oD]
  exact a2O hQ
 |false=>
  rw[cdF,a2Z,oD,cdB]
  simp only[Bool.false_eq_true,if_false]at hQ
  refine⟨fun h=> ?_,fun h=> ?_⟩
  ·rw[if_pos (by simpa using h)]at hQ;rw[bx h6,oD,oD];exact c4t hQ
  rw[if_neg (by simpa using h)]at hQ
  simp only[a2Z,oD,cdB]
  refine⟨fun h=> ?_,fun h=>⟨fun h'=> ?_,fun h'=> ?_⟩⟩
  ·rw[h];refine c3H h5 h6 ?_;simpa [h]using hQ
  ·rw[h'];refine c3H h5 h6 ?_;simpa [h,h']using hQ
  ·refine c3H h5 h6 ?_;simpa [h,h']using hQ
theorem c7w(h4:S k4=some ⟨2,[[.int .i64 2,a0p 0 65535]],a4⟩)(h5:S k5=some ⟨2,[[.int .i64 4,a0p 0 4294967295]],a5⟩)(h6:S k6=some ⟨2,[[.int .i64 1,a0p 1 3]],a6⟩)(hQ:b9 E Q (.tup [.lst (fR ((c3t b op).getD [])) 2, .bool (c3t b op).isSome]) S):
  Z6 E w0 (b9 E Q) (.int .u8 op) (.ptr k4 0) (.ptr k5 0) (.ptr k6 0) (.int .u8 op) (.bool b) S:=by
 refine a8W ?_
 unfold a5p
 unfold c3t at hQ
 cases b with
 |true=>rw[cdT,bx h4,oD,oD];exact c4t hQ
 |false=>
  rw[cdF]
  simp only[Bool.false_eq_true,if_false]at hQ
  simp only[a2Z,oD,cdB]
  refine⟨fun h=> ?_,fun h=> ?_⟩
  ·rw[h];refine c6A h5 h6 ?_;simpa [h]using hQ
  ·refine c6A h5 h6 ?_;simpa [h]using hQ
theorem c9b(h4:S k4=some ⟨2,[[.int .i64 2,a0p 0 65535]],a4⟩)(h5:S k5=some ⟨2,[[.int .i64 4,a0p 0 4294967295]],a5⟩)(h6:S k6=some ⟨2,[[.int .i64 1,a0p 1 3]],a6⟩)(hQ:b9 E Q (.tup [.lst (fR ((c1w b op).getD [])) 2, .bool (c1w b op).isSome]) S):
  r9 E w0 (b9 E Q) (.int .u8 op) (.ptr k4 0) (.ptr k5 0) (.ptr k6 0) (.int .u8 op) (.bool b) S:=by
 refine b0B ?_
 unfold a6T
 unfold c1w at hQ
 cases b with
 |true=>rw[cdT,bx h4,oD];exact a2O hQ
 |false=>
  rw[cdF]
  simp only[Bool.false_eq_true,if_false]at hQ
  simp only[a2Z,oD,cdB]
  refine⟨fun h=> ?_,fun h=> ?_⟩
  ·rw[h];refine c7w h4 h5 h6 ?_;simpa [h]using hQ
  ·refine c7w h4 h5 h6 ?_;simpa [h]using hQ
theorem b7U:U2 Try.prog E w0 a6u [.int .u8 op] (.tup [.lst (a7R op) 2, .bool (lay op).isSome]):=fun S0=>by
 refine b4G ?_
 unfold b1H
 refine E0.use ?_
 rw[a3Q (b2d _ _),oD]
 refine E0.use ?_
 rw[a3Q (b2d _ _),oD]
 intro k4 a4 n4 k5 a5 n5
 obtain⟨ne5,n5'⟩:=b5.fresh n5
 refine stP (ds:=[.int .i64 2,a0p 0 65535]) (by rw[b5.set_ne _ _ _ (Ne.symm ne5)];exact b5.set_same _ _ _) (clA _) ⟨rfl,by decide,by simp⟩ fun a4=> ?_
 rw[b5.set_in _ (Ne.symm ne5)]
 refine stP (ds:=[.int .i64 4,a0p 0 4294967295]) (b5.set_same _ _ _) (clA _) ⟨rfl,by decide,by simp⟩ fun a5=> ?_
 rw[b5.set_set]
 refine E0.use ?_
 rw[a3Q (b2d _ _),oD]
 intro k6 a6 n6
 refine stP (ds:=[.int .i64 1,a0p 1 3]) (b5.set_same _ _ _) (clA _) ⟨rfl,by decide,by simp⟩ fun a6=> ?_
 rw[b5.set_set]
 obtain⟨ne6,n6'⟩:=b5.fresh n6
 obtain⟨ne6',n6''⟩:=b5.fresh n6'
 generalize hS:((S0.set k4 _).set k5 _).set k6 _=S
 have hle:S0.le S:=by rw[←hS];exact b5.le_set (b5.le_set (b5.le_new n4) n5') n6''
 have h6:S k6=some ⟨2,[[.int .i64 1,a0p 1 3]],a6⟩:=by rw[←hS];exact b5.set_same _ _ _
 have h5:S k5=some ⟨2,[[.int .i64 4,a0p 0 4294967295]],a5⟩:=by rw[←hS,b5.set_ne _ _ _ (Ne.symm ne6)];exact b5.set_same _ _ _
 have h4:S k4=some ⟨2,[[.int .i64 2,a0p 0 65535]],a4⟩:=by rw[←hS,b5.set_ne _ _ _ (Ne.symm ne6'),b5.set_ne _ _ _ (Ne.symm ne5)];exact b5.set_same _ _ _
 have hQ:b9 E (fun d' S'=>d'= .tup [.lst (a7R op) 2, .bool (lay op).isSome]∧S'=S0) (.tup [.lst (a7R op) 2, .bool (lay op).isSome]) S:=b9.less hle b9.pure
 clear hS
 generalize hQ0:(fun d' S'=>d'=D.tup [.lst (a7R op) 2, .bool (lay op).isSome]∧S'=S0)=Q0 at hQ ⊢
 clear hQ0
 simp only[a2Z,oD,cdB,beq_iff_eq,beq_eq_false_iff_ne,ne_eq]
 refine⟨fun h=> ?_,fun g1=>⟨fun h=> ?_,fun g2=>⟨fun h=> ?_,fun g3=> ?_⟩⟩⟩
 ·refine a0O.use ?_
  rw[a3Q (b8C _),oD]
  refine a2O ?_
  rw[h]at hQ;exact hQ
 ·refine a0O.use ?_
  rw[a3Q (b8C _),oD]
  refine a2O ?_
  rw[h]at hQ;exact hQ
 ·refine a0O.use ?_
  rw[a3Q (b8C _),oD]
  refine a2O ?_
  rw[h]at hQ;exact hQ
 have e:lay op=c1w (op==6||op==7||op==8||op==50||op==36||op==39||op==40||op==41||op==42||op==43||op==44||op==45) op:=by unfold lay;rw[if_neg g1,if_neg g2,if_neg g3]
 rw[show a7R op=fR ((lay op).getD []) by unfold a7R;rw[if_neg g1,if_neg g2,if_neg g3],e]at hQ
 generalize hb:(op==6||op==7||op==8||op==50||op==36||op==39||op==40||op==41||op==42||op==43||op==44||op==45)=b at hQ
 have fin:∀c:Bool,c=b→r9 E w0 (b9 E Q0) (.int .u8 op) (.ptr k4 0) (.ptr k5 0) (.ptr k6 0) (.int .u8 op) (.bool c) S:=by
  rintro c rfl
  exact c9b h4 h5 h6 hQ
 refine⟨fun h=>fin _ (by rw[←hb];simp[h]),fun h1=>⟨fun h=>fin _ (by rw[←hb];simp[h]),fun h2=>⟨fun h=>fin _ (by rw[←hb];simp[h]),fun h3=>⟨fun h=>fin _ (by rw[←hb];simp[h]),fun h4=>⟨fun h=>fin _ (by rw[←hb];simp[h]),fun h5=>⟨fun h=>fin _ (by rw[←hb];simp[h]),fun h6=>
  ⟨fun h=>fin _ (by rw[←hb];simp[h]),fun h7=>⟨fun h=>fin _ (by rw[←hb];simp[h]),fun h8=>⟨fun h=>fin _ (by rw[←hb];simp[h]),fun h9=>⟨fun h=>fin _ (by rw[←hb];simp[h]),fun h10=>⟨fun h=>fin _ (by rw[←hb];simp[h]),fun h11=>fin _ (by rw[←hb];simp[h1,h2,h3,h4,h5,h6,h7,h8,h9,h10,h11])⟩⟩⟩⟩⟩⟩⟩⟩⟩⟩⟩
end
end
section
def b4R(fv:D)(lo hi:Int):Prop:=fv=a0p lo hi∨∃w,fv=a8Y w∧lo=a0Y w∧hi=a1a w
theorem b4R.bet(lo hi:Int):b4R (a0p lo hi) lo hi:= .inl rfl
theorem b4R.fit(w:Int):b4R (a8Y w) (a0Y w) (a1a w):= .inr ⟨w,rfl,rfl,rfl⟩
theorem b4R.cells{fv:D}{lo hi:Int}(h:b4R fv lo hi):s5 fv=some [fv]:=by
 rcases h with rfl|⟨w,rfl,_⟩<;>rfl
theorem d1j:a3L Try.prog Q5=true:=by kernel_rfl
theorem d0Y:a3L Try.prog a1m=true:=by kernel_rfl
def c1q(row:List D)(f:Fld):Prop:=∃fv,row=[.int .i64 (f.size:Int),fv]∧b4R fv f.lo f.hi
theorem c7f{op:Int}{i:Nat}{f:Fld}(h:((lay op).getD [])[i]? =some f):∃row,(a7R op)[i]? =some row∧c1q row f:=by
 unfold a7R
 by_cases h1:op=1
 ·have e:lay op=some [⟨1,a0Y 1,a1a 1⟩]:=by unfold lay;rw[if_pos h1]
  rw[e]at h
  rw[if_pos h1]
  cases i with
  |zero=>cases h;exact⟨_,rfl,_,rfl, .fit 1⟩
  |succ i=>cases h
 rw[if_neg h1]
 by_cases h2:op=2
 ·have e:lay op=some [⟨4,a0Y 2,a1a 2⟩]:=by unfold lay;rw[if_neg h1,if_pos h2]
  rw[e]at h
  rw[if_pos h2]
  cases i with
  |zero=>cases h;exact⟨_,rfl,_,rfl, .fit 2⟩
  |succ i=>cases h
 rw[if_neg h2]
 by_cases h3:op=3
 ·have e:lay op=some [⟨8,a0Y 3,a1a 3⟩]:=by unfold lay;rw[if_neg h1,if_neg h2,if_pos h3]
  rw[e]at h
  rw[if_pos h3]
  cases i with
  |zero=>cases h;exact⟨_,rfl,_,rfl, .fit 3⟩
  |succ i=>cases h
 rw[if_neg h3]
 exact⟨_,by unfold fR;rw[List.getElem?_map,h];rfl,_,rfl, .bet _ _⟩
theorem b9A{op:Int}:(a7R op).length=((lay op).getD []).length:=by
 unfold a7R
 by_cases h1:op=1
 ·rw[if_pos h1];unfold lay;rw[if_pos h1];rfl
 rw[if_neg h1]
 by_cases h2:op=2
 ·rw[if_pos h2];unfold lay;rw[if_neg h1,if_pos h2];rfl
 rw[if_neg h2]
 by_cases h3:op=3
 ·rw[if_pos h3];unfold lay;rw[if_neg h1,if_neg h2,if_pos h3];rfl
 rw[if_neg h3,fR,List.length_map]
section
variable{E:g8}{w0:j0}{S0 S:b5}{t:D}{bs ms:List Int}
theorem c1Q{fv:D}{lo hi n:Int}(h:b4R fv lo hi)(hn:I64 n){K:D→b5→Prop}(hK:K (.bool (decide (lo≤n∧n≤hi))) S):a7h Try.prog (p8 Try.prog E w0) S fv [.int .i64 n] K:=by
 rcases h with rfl|⟨w,rfl,rfl,rfl⟩
 ·simp only[a0p,a7h,a9O,d1j,if_true]
  exact b3s.use hK
 ·simp only[a8Y,a7h,a9O,d0Y,if_true]
  exact(b8s hn).use hK
end
end
end Go.Proofs.Ytdkidgkiplcggaa.d
end
section
namespace Go.Am
section
def WkR:List (List D)→List (List D)→Prop
 | [],[]=>True
 |r::rs,q::qs=>(WkL r q∧r.length=q.length)∧WkR rs qs
 |_,_=>False
theorem WkR.length:∀ {rs qs:List (List D)},WkR rs qs→rs.length=qs.length
 | [],[],_=>rfl
 |r::rs,q::qs,h=>by rw[List.length_cons,List.length_cons,WkR.length h.2]
 | [],_::_,h=>h.elim
 |_::_,[],h=>h.elim
theorem WkR.row:∀ {rs qs:List (List D)} {sz:Nat},WkR rs qs→(∀r∈rs,r.length=sz)→∀q∈qs,q.length=sz
 | [],[],sz,_,_=>fun q hq=>by cases hq
 |r::rs,q::qs,sz,h,hr=>fun y hy=>by
  rcases List.mem_cons.1 hy with e|hy
  ·subst e;rw[←h.1.2];exact hr r List.mem_cons_self
  ·exact WkR.row h.2 (fun r hr'=>hr r (List.mem_cons_of_mem _ hr')) y hy
 | [],_::_,_,h,_=>h.elim
 |_::_,[],_,h,_=>h.elim
theorem WkR.ok{E:g8}{R:Fz}:∀ {rs qs:List (List D)} {vs:List AV},WkR rs qs→a0b E R rs vs→a0b E R qs vs
 | [],[],vs,_,h=>h
 |r::rs,q::qs,vs,w,h=>by
  simp only[a0b]at h ⊢
  obtain⟨a,b,e,h1,h2⟩:=h
  exact⟨a,b,e,w.1.1.ok h1,WkR.ok w.2 h2⟩
 | [],_::_,_,w,_=>w.elim
 |_::_,[],_,w,_=>w.elim
theorem Wk.lst{rs qs:List (List D)}(w:WkR rs qs)(sz:Nat):Wk (.lst rs sz) (.lst qs sz):=fun E R v h=>by
 simp only[Rp]at h ⊢
 rcases h with ⟨rfl,rfl⟩|⟨o,j,cap,ex,z,e1,e2,e3,e4,e5⟩
 ·cases qs with
  |nil=>exact .inl ⟨rfl,rfl⟩
  |cons=>exact w.elim
 ·refine .inr ⟨o,j,cap,ex,z,by rw[←w.length];exact e1,e2,by rw[←w.length];exact e3,w.row e4, ?_⟩
  rcases e5 with rfl|⟨all,f1,f2,f3⟩
  ·cases qs with
   |nil=>exact .inl rfl
   |cons=>exact w.elim
  ·exact .inr ⟨all,f1,by rw[←w.length];exact w.ok f2,by rw[←w.length];exact f3⟩
theorem Wk.trans{a b c:D}(h:Wk a b)(h':Wk b c):Wk a c:=fun E R v x=>h' E R v (h E R v x)
theorem WkR.map{α:Type}{f g:α→List D}(h:∀a,WkL (f a) (g a)∧(f a).length=(g a).length):∀(l:List α),WkR (l.map f) (l.map g)
 | []=>trivial
 |a::l=>⟨h a,WkR.map h l⟩
inductive Lst (rows:List (List D)) (sz:Nat):D→Prop where
 |lst:Lst rows sz (.lst rows sz)
 |ext (more:List (List D)):Lst rows sz (.ext rows more sz)
section
variable{rows:List (List D)}{sz:Nat}{d:D}
theorem Lst.len(h:Lst rows sz d):j9 d=some (.int .i64 rows.length):=by cases h<;>rfl
theorem Lst.at(h:Lst rows sz d){i:Nat}{row:List D}(hr:rows[i]? =some row):j5 sz d (.int .i64 (i:Int))=some (.elt row 0):=by
 cases h
 ·exact b9u hr
 ·exact d1n hr
theorem Lst.rowsS(h:Lst rows sz d)(S:b5):Am.rowsS S sz d=some rows:=by
 cases h<;>simp[Am.rowsS,C1]
theorem Lst.wk(h:Lst rows sz d):Wk d (.lst rows sz):=by
 cases h
 ·exact Wk.refl _
 ·exact Wk.ext _ _ _
theorem Lst.cells(h:Lst rows sz d):s5 d=some [d]:=by cases h<;>rfl
end
theorem c7O{n cap:Nat}(h:n≤cap):C6 (.int .i64 (n:Int)) cap=some n:=by
 simp only[C6]
 rw[if_pos (by omega),Int.toNat_natCast]
theorem d1l{rows:List (List D)}{sz n:Nat}(h:n≤rows.length):V2 sz (.lst rows sz) none (some (.int .i64 (n:Int))) none=some (b8u (rows.take n) (rows.drop n) sz):=by
 simp only[V2,G4,b7E,a6Q,b2Q,if_true,Option.bind_some,c7O h,Option.map_some,List.drop_zero,Nat.sub_zero]
 rw[List.take_of_length_le (l:=rows.drop n) (by rw[List.length_drop];omega)]
theorem d1e{rows more:List (List D)}{sz n:Nat}(h:n≤(rows++more).length):V2 sz (.ext rows more sz) none (some (.int .i64 (n:Int))) none=some (b8u ((rows++more).take n) ((rows++more).drop n) sz):=by
 simp only[V2,G4,b7E,a6Q,b2Q,if_true,Option.bind_some,c7O h,Option.map_some,List.drop_zero,Nat.sub_zero]
 rw[List.take_of_length_le (l:=(rows++more).drop n) (by rw[List.length_drop];omega)]
theorem Grw.upd{S0 S:b5}{t:D}{rows:List (List D)}{sz k:Nat}{o o':A2}(h:Grw S0 t rows sz S)(hk:S0 k=some o'):Grw (S0.set k o) t rows sz (S.set k o):=by
 rcases h with ⟨rfl,rfl,rfl⟩|⟨l,acs,h,rfl,rfl⟩
 ·exact .inl ⟨rfl,rfl,rfl⟩
 ·have hne:l≠k:=fun e=>by rw[e,hk]at h;cases h
  refine .inr ⟨l,acs, ?_,rfl,b5.set_comm _ hne _ _⟩
  rw[b5.set_ne _ _ _ hne];exact h
theorem Grw.last{S0 S:b5}{t:D}{rows:List (List D)}{sz bytes:Nat}(h:Grw S0 t rows sz S){v:D}{news:List (List D)}(hv:rowsS S sz v=some news)(hn:news≠[])(hb:0<bytes∧(2*(rows.length+news.length)+768)*bytes≤2^47){K:D→b5→Prop}
  (hK:K (.lst (rows++news) sz) S0):u4 S sz bytes t v K:=by
 simp only[u4,hv]
 rcases h with ⟨rfl,rfl,rfl⟩|⟨k,acs,h,rfl,rfl⟩
 ·simp only[a0h]
  rw[if_neg hn]
  refine⟨⟨hb.1,by simpa using hb.2⟩, .inl ?_⟩
  rw[List.take_of_length_le (Nat.le_refl _)]
  simpa using hK
 ·simp only[a0h]
  rw[if_neg hn,b5.set_same]
  simp only
  rw[if_pos ⟨by trivial,by trivial,by omega⟩]
  refine⟨hb, .inl ?_⟩
  rw[b5.erase_set _ _ _ h,List.take_of_length_le (by simp)]
  simpa using hK
end
section
theorem b5.set_self{S:b5}{k:Nat}{o:A2}(h:S k=some o):S.set k o=S:=by
 funext j;unfold b5.set
 by_cases e:j=k
 ·subst e;rw[if_pos rfl,h]
 ·rw[if_neg e]
theorem b5.ne_of{S:b5}{k l:Nat}{o:A2}(h:S k=some o)(n:S l=Option.none):k≠l:=fun e=>by rw[e,n]at h;cases h
theorem b5.none_of{S S':b5}(h:S.le S'){k:Nat}(hk:S' k=Option.none):S k=Option.none:=by
 cases e:S k with
 |none=>rfl
 |some o=>rw[h _ _ e]at hk;cases hk
def D3(S:b5)(k sz:Nat)(c:List D):Prop:=∃a,S k=some ⟨sz,[c],a⟩
section
variable{S S':b5}{k l sz sz':Nat}{c c':List D}
theorem D3.new{a:List AV}:D3 (S.set k ⟨sz,[c],a⟩) k sz c:=⟨a,b5.set_same _ _ _⟩
theorem D3.set_ne(h:D3 S k sz c){o:A2}(hn:k≠l):D3 (S.set l o) k sz c:=by
 obtain⟨a,h⟩:=h;exact⟨a,by rw[b5.set_ne _ _ _ hn];exact h⟩
theorem D3.none(h:D3 S k sz c)(hn:S l=Option.none):k≠l:=by
 obtain⟨a,h⟩:=h;exact b5.ne_of h hn
theorem D3.set(h:D3 S k sz c){o:A2}(hn:S l=Option.none):D3 (S.set l o) k sz c:=h.set_ne (h.none hn)
theorem D3.of(h:D3 S k sz c)(e:S' k=S k):D3 S' k sz c:=by
 obtain⟨a,h⟩:=h;exact⟨a,by rw[e];exact h⟩
theorem D3.le(h:D3 S k sz c)(hl:S.le S'):D3 S' k sz c:=by
 obtain⟨a,h⟩:=h;exact⟨a,hl _ _ h⟩
theorem D3.ne(h:D3 S k sz c)(h':D3 S l sz' c')(hs:sz≠sz'):k≠l:=fun e=>by
 obtain⟨a,h⟩:=h;obtain⟨b,h'⟩:=h';subst e;rw[h]at h';cases h';exact hs rfl
theorem D3.there(h:D3 S k sz c):S k≠Option.none:=by
 obtain⟨a,h⟩:=h;rw[h];simp
theorem D3.ld(h:D3 S k sz c)(i:Nat):d9 S (.ptr k i)=c[i]? :=by obtain⟨a,h⟩:=h;exact ldP h
theorem D3.la(h:D3 S k sz c){i n:Nat}(hn:0<n∧i+n≤c.length):l9 S n (.ptr k i)=some (.agg ((c.drop i).take n)):=by obtain⟨a,h⟩:=h;exact laP h hn
theorem D3.all(h:D3 S k sz c){n:Nat}(hn:0<n)(hl:n=c.length):l9 S n (.ptr k 0)=Option.some (.agg c):=by
 rw[h.la ⟨hn,by omega⟩,List.drop_zero,List.take_of_length_le (by omega)]
theorem D3.st(h:D3 S k sz c){i n:Nat}{v:D}{ds:List D}{K:D→b5→Prop}(hv:s5 v=Option.some ds)(hn:ds.length=n∧0<n∧i+n≤c.length)(hK:∀a,K b6 (S.set k ⟨sz,[j4 c i ds],a⟩)):j1 S n (.ptr k i) v K:=by
 obtain⟨a,h⟩:=h;exact stP h hv hn hK
end
def O4(S0:b5)(av:List Nat)(t:D)(rows:List (List D))(sz:Nat)(S:b5):Prop:=
 (t= .nilSlc∧rows=[])∨∃k acs,S0 k=Option.none∧k ∉ av∧t= .raw k 0 rows.length rows.length false sz∧S k=some ⟨sz,rows,acs⟩
section
variable{S0 S:b5}{av:List Nat}{t:D}{rows:List (List D)}{sz:Nat}
theorem O4.nil:O4 S0 av .nilSlc [] sz S:= .inl ⟨rfl,rfl⟩
theorem O4.of(h:O4 S0 av t rows sz S){S':b5}(e:∀k o,k ∉ av→S k=some o→S' k=some o):O4 S0 av t rows sz S':=by
 rcases h with h|⟨k,acs,h0,h1,h2,h3⟩
 ·exact .inl h
 ·exact .inr ⟨k,acs,h0,h1,h2,e _ _ h1 h3⟩
theorem O4.set(h:O4 S0 av t rows sz S){l:Nat}{o:A2}(hl:l∈av∨S l=Option.none):O4 S0 av t rows sz (S.set l o):=h.of fun k o' hk e=>by
 rw[b5.set_ne]
 ·exact e
 ·rintro rfl
  rcases hl with hl|hl
  ·exact hk hl
  ·rw[hl]at e;cases e
theorem O4.le(h:O4 S0 av t rows sz S){S':b5}(hl:S.le S'):O4 S0 av t rows sz S':=h.of fun k o _ e=>hl _ _ e
theorem O4.push(h:O4 S0 av t rows sz S)(hle:S0.le S)(hav:∀j∈av,S j≠Option.none){bytes:Nat}{v:D}{news:List (List D)}(hv:rowsS S sz v=some news)(hn:news≠[])(hb:0<bytes∧(2*(rows.length+news.length)+768)*bytes≤2^47){K:D→b5→Prop}
  (hK:∀t' S',S0.le S'→(∀j∈av,S' j=S j)→O4 S0 av t' (rows++news) sz S'→K t' S'):u4 S sz bytes t v K:=by
 simp only[u4,hv]
 rcases h with ⟨rfl,rfl⟩|⟨k,acs,h0,h1,rfl,h3⟩
 ·simp only[a0h]
  rw[if_neg hn]
  refine⟨⟨hb.1,by simpa using hb.2⟩, .inr fun k acs hk=>hK _ _ (b5.le_set hle (b5.none_of hle hk)) (fun j hj=>b5.set_ne _ _ _ fun e=>hav j hj (by rw[e];exact hk)) (.inr ⟨k,acs,b5.none_of hle hk,fun hm=>hav k hm hk,by simp,by simpa using b5.set_same _ _ _⟩)⟩
 ·simp only[a0h]
  rw[if_neg hn,h3]
  simp only
  rw[if_pos ⟨by trivial,by trivial,by omega⟩]
  have hke:∀j∈av,(S.erase k) j=S j:=fun j hj=>b5.erase_ne _ _ fun e=>h1 (e▸hj)
  refine⟨hb, .inr fun k' acs' hk'=> ?_⟩
  have hle':=b5.le_erase hle h0
  refine hK _ _ (b5.le_set hle' (b5.none_of hle' hk')) (fun j hj=> ?_) (.inr ⟨k',acs',b5.none_of hle' hk',fun hm=>hav k' hm (by rw[←hke k' hm];exact hk'),by simp, ?_⟩)
  ·rw[b5.set_ne,hke j hj]
   rintro rfl
   exact hav j hj (by rw[←hke j hj];exact hk')
  ·rw[b5.set_same];simp
theorem O4.grw(h:O4 S0 av t rows sz S)(hle:S0.le S):∃S',S'.le S∧Grw S0 t rows sz S':=by
 rcases h with ⟨rfl,rfl⟩|⟨k,acs,h0,h1,rfl,h3⟩
 ·exact⟨S0,hle, .inl ⟨rfl,rfl,rfl⟩⟩
 ·refine⟨S0.set k ⟨sz,rows,acs⟩,fun j o e=> ?_, .inr ⟨k,acs,h0,rfl,rfl⟩⟩
  unfold b5.set at e
  split at e
  ·rename_i hj;subst hj;cases e;exact h3
  ·exact hle _ _ e
theorem O4.len(h:O4 S0 av t rows sz S):j9 t=some (.int .i64 rows.length):=by
 rcases h with ⟨rfl,rfl⟩|⟨k,acs,_,_,rfl,_⟩<;>rfl
theorem O4.cells(h:O4 S0 av t rows sz S):s5 t=some [t]:=by
 rcases h with ⟨rfl,rfl⟩|⟨k,acs,_,_,rfl,_⟩<;>rfl
end
theorem p8.fin{P:Program}{E:g8}{w0:j0}{f:FuncId}{ds:List D}{S:b5}{Q Q':D→b5→Prop}(h:p8 P E w0 f ds S Q)(hq:∀d S',Q d S'→b9 E Q' d S'):p8 P E w0 f ds S Q':=fun R H avs hF hC ha=>by
 refine b5n _ _ _ _ _ (h R H avs hF hC ha) fun v H' ⟨F',R',S',d,a,b,c,e⟩=> ?_
 obtain⟨R2,S2,d2,a2,b2,c2,e2⟩:=hq _ _ e R' H' v b c
 exact⟨F',R2,S2,d2,Fz.le_trans a a2,b2,c2,e2⟩
end
end Go.Am
end
section
open Go.Proofs Go Go.Am Go.Op
namespace Go.Proofs.Ytdkidgkiplcggaa.d
section
def Y1(y:Int×Int):List D:=[.int .i64 y.1, .int .i64 y.2]
def a5e(arms:List (Int×Int)):D:= .lst (arms.map Y1) 2
def N7(y:In):List D:=[.int .u8 y.op, .int .i64 y.a, .int .i64 y.b,a5e y.arms]
def inD(y:In):D:= .agg (N7 y)
section
variable{E:g8}{w0:j0}{S0 S:b5}{t:D}{bs ms:List Int}
@[simp] theorem c1e(arms:List (Int×Int)):j9 (a5e arms)=some (.int .i64 arms.length):=by simp[a5e]
theorem c4R{arms:List (Int×Int)}{i:Nat}{y:Int×Int}(h:arms[i]? =some y):j5 2 (a5e arms) (.int .i64 (i:Int))=some (.elt (Y1 y) 0):=b9u (by rw[List.getElem?_map,h];rfl)
end
end
section
theorem c1q.load{row:List D}{f:Fld}(h:c1q row f):row.length=2:=by obtain⟨fv,rfl,_⟩:=h;rfl
section
variable{E:g8}{w0:j0}{S0 S:b5}{t:D}{bs:List Int}{y:In}
end
end
section
@[simp] theorem d1g(row:List D)(rows:List (List D))(sz:Nat):j5 sz (.lst (row::rows) sz) (.int .i64 0)=some (.elt row 0):=b9u (i:=0) rfl
@[simp] theorem d1a(a row:List D)(rows:List (List D))(sz:Nat):j5 sz (.lst (a::row::rows) sz) (.int .i64 1)=some (.elt row 0):=b9u (i:=1) rfl
theorem d0m(a b:Int):(a==b)=decide (a=b):=by by_cases h:a=b<;>simp[h]
end
end Go.Proofs.Ytdkidgkiplcggaa.d
end
