/-
  TransferRisesSaid: part Qat of its proof.
-/
import Derived.Test.YtdkidgkiplcggaaGreatQas
set_option linter.unusedVariables false
set_option linter.unusedSimpArgs false
set_option maxRecDepth 100000
section
namespace Go.Op
open Go.Am
def a3R(w:Int):Int:=if w=1 then -128 else if w=2 then -2147483648 else if w=3 then -9223372036854775808 else 1
def a3T(w:Int):Int:=if w=1 then 127 else if w=2 then 2147483647 else if w=3 then 9223372036854775807 else 0
def I64(n:Int):Prop:= -9223372036854775808≤n∧n≤9223372036854775807
def c7K(w:Int):Int:=if w=1 then 8 else if w=2 then 32 else if w=3 then 64 else 0
def c5s(w n:Int):Int:=if w=1 then IntKind.i64.wrap (IntKind.i8.wrap n) else if w=2 then IntKind.i64.wrap (IntKind.i32.wrap n) else if w=3 then n else 0
theorem c1r(n:Int):IntKind.u8.wrap n=n % 256:=by
 simp only[IntKind.wrap,IntKind.bits,IntKind.signed];simp
theorem b2I(n:Int):IntKind.u64.wrap n=n % 18446744073709551616:=by
 simp only[IntKind.wrap,IntKind.bits,IntKind.signed];simp
def a4f(n:Int)(i:Nat):Int:=(n / 2^(8*i)) % 256
def H8(n:Int)(size:Nat):List Int:=(List.range size).map (a4f n)
theorem u6(n:Int)(s:Nat):(H8 n s).length=s:=by simp[H8]
structure Fld where
 size:Nat
 lo:Int
 hi:Int
 deriving DecidableEq
def fIx:Fld:=⟨2,0,65535⟩
def Q6:Fld:=⟨4,0,4294967295⟩
def a9o:Fld:=⟨1,1,3⟩
def d0f(b:Bool)(op:Int):Option (List Fld):=
 if b then some [Q6]else if op=52 then some [⟨1,0,255⟩]else if op=49 then some [a9o]
 else if 11≤op∧op≤28 then some [a9o]else if 1≤op∧op≤52 then some []else none
def c9X(b:Bool)(op:Int):Option (List Fld):=
 if b then some [⟨1,1,5⟩]else if op=29 then some [a9o,a9o]else d0f (op==46||op==47||op==48) op
def d0u(b:Bool)(op:Int):Option (List Fld):=if b then some [fIx,fIx]else c9X (op==23||op==24) op
def c8n(b:Bool)(op:Int):Option (List Fld):=if b then some [fIx]else d0u (op==37||op==38) op
def lay(op:Int):Option (List Fld):=
 if op=1 then some [⟨1,a3R 1,a3T 1⟩]else if op=2 then some [⟨4,a3R 2,a3T 2⟩]else if op=3 then some [⟨8,a3R 3,a3T 3⟩]
 else c8n (op==6||op==7||op==8||op==50||op==36||op==39||op==40||op==41||op==42||op==43||op==44||op==45) op
structure In where
 op:Int
 a:Int
 b:Int
 arms:List (Int×Int)
structure In.Ok (x:In):Prop where
 op:0≤x.op∧x.op≤255
 a:I64 x.a
 b:I64 x.b
 arms:∀y∈x.arms,I64 y.1∧I64 y.2
 short:x.arms.length<2^44
def Fld.may(f:Fld)(n:Int):Bool:=decide (f.lo≤n∧n≤f.hi)
def In.num(x:In)(i:Nat):Int:=if i=1 then x.b else x.a
def a5b(x:In):Nat→List Fld→List Int
 |_,[]=>[]
 |i,f::l=>H8 (x.num i) f.size++a5b x (i+1) l
def a2o(x:In):Nat→List Fld→Bool
 |_,[]=>true
 |i,f::l=>f.may (x.num i)&&a2o x (i+1) l
def d5M(y:Int×Int):List Int:=H8 y.1 8++H8 y.2 4
def c3M(w:Int)(y:Int×Int):Bool:=decide (a3R w≤y.1∧y.1≤a3T w)&&decide (0≤y.2∧y.2≤4294967295)
def isS(x:In):Bool:=
 (lay x.op).isSome&&a2o x 0 ((lay x.op).getD [])&&
  if x.op=49 then decide (x.arms.length≤65535)&&x.arms.all (c3M (IntKind.u8.wrap x.a))&&decide (0≤x.b∧x.b≤4294967295)
  else decide (x.arms.length=0)&&(decide (2≤((lay x.op).getD []).length)||decide (x.b=0))&&(decide (1≤((lay x.op).getD []).length)||decide (x.a=0))
def a3L(arms:List (Int×Int)):List Int:=arms.flatMap d5M
def b4n(x:In):List Int:=x.op::a5b x 0 ((lay x.op).getD [])++if x.op=49 then H8 x.arms.length 2++a3L x.arms++H8 x.b 4 else[]
def b6g(l:Option (List Fld)):Bool:=(l.getD []).all (fun f=>decide (1≤f.size∧f.size≤8))&&decide ((l.getD []).length≤2)
theorem d4H{c:Prop}[Decidable c]{a b:Option (List Fld)}(ha:b6g a=true)(hb:b6g b=true):b6g (if c then a else b)=true:=by
 by_cases h:c
 ·rw[if_pos h];exact ha
 ·rw[if_neg h];exact hb
theorem d3C(op:Int):b6g (lay op)=true:=by
 unfold lay c8n d0u c9X d0f
 repeat' apply d4H
 all_goals rfl
theorem b5K{op:Int}:((lay op).getD []).length≤2:=by
 have h:=d3C op
 simp only[b6g,Bool.and_eq_true,List.all_eq_true,decide_eq_true_eq]at h
 exact h.2
theorem a3f:∀l:List (Int×Int),(a3L l).length=12*l.length
 | []=>rfl
 |y::l=>by
  have:=a3f l
  simp only[a3L,List.flatMap_cons,List.length_append,d5M,u6,List.length_cons]at this ⊢
  omega
def leN:List Int→Nat
 | []=>0
 |b::l=>b.toNat+256*leN l
def a1m(b:Int):Prop:=0≤b∧b≤255
theorem d3d(n:Int)(s:Nat):H8 n (s+1)=a4f n 0::H8 (n / 256) s:=by
 unfold H8
 rw[List.range_succ_eq_map,List.map_cons,List.map_map]
 congr 1
 refine List.map_congr_left fun i _=> ?_
 simp only[Function.comp,a4f]
 rw[show 8*(i+1)=8+8*i by omega,Int.pow_add, ←Int.ediv_ediv_of_nonneg (by decide)]
 rfl
theorem d4j(n:Int)(s:Nat):∀b∈H8 n s,a1m b:=by
 intro b hb
 obtain⟨i,_,rfl⟩:=List.mem_map.1 hb
 unfold a4f a1m
 omega
theorem d1G:∀(s:Nat) (n:Int),(leN (H8 n s):Int)=n % 2^(8*s)
 |0,n=>by simp[H8,leN,Int.emod_one]
 |s+1,n=>by
  have ih:=d1G s (n / 256)
  rw[d3d,leN]
  have hM:(0:Int)<2^(8*s):=Int.pow_pos (by decide)
  have hp:(2:Int)^(8*(s+1))=256*2^(8*s):=by rw[show 8*(s+1)=8+8*s by omega,Int.pow_add];rfl
  have hb:((a4f n 0).toNat:Int)=n % 256:=by
   have:a4f n 0=n % 256:=by simp[a4f]
   rw[this];omega
  rw[Int.natCast_add,Int.natCast_mul,ih,hb,hp]
  have h1:=Int.emod_nonneg (n / 256) (show(2:Int)^(8*s)≠0 by omega)
  have h2:=Int.emod_lt_of_pos (n / 256) hM
  have h3:=Int.mul_ediv_add_emod (n / 256) (2^(8*s))
  have h4:=Int.mul_ediv_add_emod n 256
  refine((Int.ediv_emod_unique (a:=n) (b:=256*2^(8*s)) (q:=n / 256 / 2^(8*s)) (by omega)).2 ⟨?_,by omega, ?_⟩).2.symm
  ·have:256*2^(8*s)*(n / 256 / 2^(8*s))=256*(2^(8*s)*(n / 256 / 2^(8*s))):=by rw[Int.mul_assoc]
   rw[this]
   omega
  ·omega
theorem d2b:∀ {l m:List Int},(∀b∈l,a1m b)→(∀b∈m,a1m b)→l.length=m.length→leN l=leN m→l=m
 | [],[],_,_,_,_=>rfl
 | [],b::m,_,_,h,_=>by simp at h
 |a::l,[],_,_,h,_=>by simp at h
 |a::l,b::m,hl,hm,h,e=>by
  obtain⟨a0,a1⟩:=hl a (by simp)
  obtain⟨b0,b1⟩:=hm b (by simp)
  simp only[leN]at e
  have hab:a=b:=by omega
  have hlm:leN l=leN m:=by omega
  rw[hab,d2b (fun x hx=>hl x (by simp[hx])) (fun x hx=>hm x (by simp[hx])) (by simpa using h) hlm]
theorem c3A:∀ {l:List Int},(∀b∈l,a1m b)→leN l<2^(8*l.length)
 | [],_=>by simp[leN]
 |a::l,h=>by
  obtain⟨a0,a1⟩:=h a (by simp)
  have ih:=c3A (fun x hx=>h x (by simp[hx]):∀b∈l,a1m b)
  have hp:2^(8*(l.length+1))=256*2^(8*l.length):=by rw[show 8*(l.length+1)=8+8*l.length by omega,Nat.pow_add]
  rw[leN,List.length_cons,hp]
  omega
def b2z(f:Fld):Prop:=1≤f.size∧((f.size≤7∧0≤f.lo∧f.hi<2^(8*f.size))∨(f.size≤7∧ -(2^(8*f.size - 1))≤f.lo∧f.hi<2^(8*f.size - 1))∨(f.size=8∧ -9223372036854775808≤f.lo∧f.hi≤9223372036854775807))
def rdN(f:Fld)(u:Nat):Option Int:=
 let n:=IntKind.i64.wrap (u:Int)
 let n':=if f.may n=false∧f.size<8 then n - 2^(8*f.size) else n
 if f.may n'=true then some n' else none
theorem d6b(z:Int):IntKind.i64.wrap z % 18446744073709551616=z % 18446744073709551616:=by
 simp only[IntKind.wrap,IntKind.bits,IntKind.signed];simp
 split<;>omega
theorem d5o{f:Fld}{u:Nat}{n:Int}(h:rdN f u=some n)(h8:f.size≤8):f.may n=true∧n % 2^(8*f.size)=(u:Int) % 2^(8*f.size):=by
 unfold rdN at h
 simp only at h
 obtain⟨n',hn'⟩:∃n',n'=if f.may (IntKind.i64.wrap (u:Int))=false∧f.size<8 then IntKind.i64.wrap (u:Int) - 2^(8*f.size) else IntKind.i64.wrap (u:Int):=⟨_,rfl⟩
 rw[←hn']at h
 have hw:IntKind.i64.wrap (u:Int) % 2^(8*f.size)=(u:Int) % 2^(8*f.size):=by
  have hd:((2:Int)^(8*f.size)) ∣ 18446744073709551616:=by
   refine⟨2^(64 - 8*f.size), ?_⟩
   rw[←Int.pow_add,show 8*f.size+(64 - 8*f.size)=64 by omega]
   rfl
  rw[←Int.emod_emod_of_dvd _ hd,d6b,Int.emod_emod_of_dvd _ hd]
 split at h
 ·rename_i hm
  cases h
  refine⟨hm, ?_⟩
  rw[hn']
  split
  ·rw[Int.sub_emod_right];exact hw
  ·exact hw
 ·cases h
def G7(bs:List Int)(f:Fld)(s:Nat×Int):Int×Nat×Int:=
 if s.2≠0 then(0,s.1,s.2) else if bs.length<s.1+f.size then(0,s.1,10) else
 match rdN f (leN ((bs.drop s.1).take f.size)) with
 |some n=>(n,s.1+f.size,0)
 |none=>(0,s.1,120)
theorem d2f{bs:List Int}{f:Fld}{s:Nat×Int}(h:s.2≠0):G7 bs f s=(0,s):=by
 unfold G7
 rw[if_pos h]
theorem d7o{bs:List Int}(hb:∀b∈bs,a1m b){f:Fld}(h8:f.size≤8){at_:Nat}{n:Int}{at':Nat}(h:G7 bs f (at_,0)=(n,at',0)):f.may n=true∧at'=at_+f.size∧at'≤bs.length∧(bs.drop at_).take f.size=H8 n f.size:=by
 unfold G7 at h
 rw[if_neg (by simp)]at h
 split at h
 ·cases h
 rename_i hlen
 simp only at h hlen
 split at h
 ·rename_i m hm
  cases h
  obtain⟨g1,g2⟩:=d5o hm h8
  have hbs:∀b∈(bs.drop at_).take f.size,a1m b:=fun b hb'=>hb b (List.mem_of_mem_drop (List.mem_of_mem_take hb'))
  have hl:((bs.drop at_).take f.size).length=f.size:=by rw[List.length_take,List.length_drop];omega
  refine⟨g1,rfl,by omega,d2b hbs (d4j _ _) (by rw[hl,u6]) ?_⟩
  have e1:=d1G f.size n
  have e2:=c3A hbs
  rw[hl]at e2
  have e3:((leN ((bs.drop at_).take f.size):Nat):Int)<2^(8*f.size):=by exact_mod_cast e2
  rw[g2,Int.emod_eq_of_lt (by omega) e3]at e1
  omega
 ·cases h
def vF(w:Int):Fld:=⟨8,a3R w,a3T w⟩
def R3(bs:List Int)(w:Int):Nat→Nat×Int→List (Int×Int)→List (Int×Int)×(Nat×Int)
 |0,s,acc=>(acc,s)
 |n+1,s,acc=>if s.2≠0 then(acc,s) else
  R3 bs w n (G7 bs Q6 (G7 bs (vF w) s).2).2 (acc++[((G7 bs (vF w) s).1,(G7 bs Q6 (G7 bs (vF w) s).2).1)])
def Y2(bs:List Int):List Fld→Nat×Int→Int×Int×(Nat×Int)
 | [],s=>(0,0,s)
 | [f],s=>((G7 bs f s).1,0,(G7 bs f s).2)
 |f::g::_,s=>((G7 bs f s).1,(G7 bs g (G7 bs f s).2).1,(G7 bs g (G7 bs f s).2).2)
abbrev Dat:=Int×Int×Int×List (Int×Int)
def a9b(bs:List Int)(op a:Int)(s:Nat×Int):Dat×(Nat×Int):=
 ((op,a,(G7 bs Q6 (R3 bs (IntKind.u8.wrap a) (G7 bs fIx s).1.toNat (G7 bs fIx s).2 []).2).1,(R3 bs (IntKind.u8.wrap a) (G7 bs fIx s).1.toNat (G7 bs fIx s).2 []).1),
  (G7 bs Q6 (R3 bs (IntKind.u8.wrap a) (G7 bs fIx s).1.toNat (G7 bs fIx s).2 []).2).2)
def b8Q(bs:List Int)(at_:Nat):Dat×(Nat×Int):=
 if bs.getD at_ 0=49 then a9b bs 49 (Y2 bs ((lay (bs.getD at_ 0)).getD []) (at_+1,0)).1 (Y2 bs ((lay (bs.getD at_ 0)).getD []) (at_+1,0)).2.2
 else((bs.getD at_ 0,(Y2 bs ((lay (bs.getD at_ 0)).getD []) (at_+1,0)).1,(Y2 bs ((lay (bs.getD at_ 0)).getD []) (at_+1,0)).2.1,[]),(Y2 bs ((lay (bs.getD at_ 0)).getD []) (at_+1,0)).2.2)
def d0v:Dat:=(0,0,0,[])
def c4O(bs:List Int)(at_:Nat):Dat×(Nat×Int):=
 if lay (bs.getD at_ 0)=none then(d0v,(0,120)) else if(b8Q bs at_).2.2≠0 then(d0v,(0,(b8Q bs at_).2.2)) else b8Q bs at_
def In.dat(x:In):Dat:=(x.op,x.a,x.b,x.arms)
theorem d2g{c:Prop}[Decidable c]{a b:Option (List Fld)}(ha:∀f∈a.getD [],b2z f)(hb:∀f∈b.getD [],b2z f):∀f∈(if c then a else b).getD [],b2z f:=by
 by_cases h:c
 ·rw[if_pos h];exact ha
 ·rw[if_neg h];exact hb
theorem b8d(op:Int):∀f∈(lay op).getD [],b2z f:=by
 unfold lay c8n d0u c9X d0f
 repeat' apply d2g
 all_goals (intro f hf;simp only[Option.getD_some,Option.getD_none,List.mem_cons,List.not_mem_nil,or_false,or_self,false_or,fIx,Q6,a9o]at hf)
 all_goals (subst hf)
 all_goals (first|exact⟨by decide, .inl ⟨by decide,by decide,by decide⟩⟩|exact⟨by decide, .inr (.inl ⟨by decide,by decide,by decide⟩)⟩|exact⟨by decide, .inr (.inr ⟨by decide,by decide,by decide⟩)⟩)
theorem c2z:b2z Q6:=⟨by decide, .inl ⟨by decide,by decide,by decide⟩⟩
theorem d5C(w:Int):b2z (vF w):=by
 refine⟨by show 1≤8;omega, .inr (.inr ⟨rfl, ?_, ?_⟩)⟩
 ·show _≤a3R w
  unfold a3R
  repeat' split
  all_goals omega
 ·show a3T w≤_
  unfold a3T
  repeat' split
  all_goals omega
theorem d1T(w:Int)(y:Int×Int):c3M w y=((vF w).may y.1&&Q6.may y.2):=rfl
theorem b9n{x:In}(h:isS x=true):∃l,lay x.op=some l∧a2o x 0 l=true∧(x.op=49→x.arms.length≤65535∧x.arms.all (c3M (IntKind.u8.wrap x.a))=true∧Q6.may x.b=true)∧(x.op≠49→x.arms=[]∧(l.length<2→x.b=0)∧(l.length<1→x.a=0)):=by
 unfold isS at h
 cases hl:lay x.op with
 |none=>rw[hl]at h;simp at h
 |some l=>
  rw[hl]at h
  simp only[Option.isSome_some,Bool.true_and,Option.getD_some,Bool.and_eq_true]at h
  refine⟨l,rfl,h.1,fun h49=> ?_,fun h49=> ?_⟩
  ·have h2:=h.2
   rw[if_pos h49]at h2
   simp only[Bool.and_eq_true,decide_eq_true_eq]at h2
   exact⟨h2.1.1,h2.1.2,by unfold Fld.may;exact decide_eq_true h2.2⟩
  ·have h2:=h.2
   rw[if_neg h49]at h2
   simp only[Bool.and_eq_true,Bool.or_eq_true,decide_eq_true_eq]at h2
   exact⟨List.length_eq_zero_iff.1 h2.1.1,fun hn=>h2.1.2.resolve_left (by omega),fun hn=>h2.2.resolve_left (by omega)⟩
theorem d6n{l:List Fld}{op:Int}(h:lay op=some l)(h49:op=49):l=[a9o]:=by
 rw[h49]at h
 have:lay 49=some [a9o]:=rfl
 rw[this]at h
 cases h
 rfl
theorem c9z:∀(l:List Int) (b:Int),leN (l++[b])=leN l+b.toNat*2^(8*l.length)
 | [],b=>by simp[leN]
 |a::l,b=>by
  have hp:2^(8*(l.length+1))=256*2^(8*l.length):=by rw[show 8*(l.length+1)=8+8*l.length by omega,Nat.pow_add]
  rw[List.cons_append,leN,leN,c9z l b,List.length_cons,hp,Nat.mul_add, ←Nat.add_assoc]
  congr 1
  rw[Nat.mul_left_comm]
theorem c5U{bs:List Int}{f:Fld}{s:Nat×Int}(h:s.1≤bs.length):(G7 bs f s).2.1≤bs.length:=by
 unfold G7
 split
 ·exact h
 split
 ·exact h
 ·split
  ·simp only;omega
  ·exact h
theorem c9j(u:Int):I64 (IntKind.i64.wrap u):=by
 unfold I64
 simp only[IntKind.wrap,IntKind.bits,IntKind.signed];simp
 split<;>omega
def c1E(bs:List Int):Nat→Int→Int→Nat×Int→List Fld→Int×Int×(Nat×Int)
 |_,a,b,s,[]=>(a,b,s)
 |i,a,b,s,f::l=>c1E bs (i+1) (if i=0 then(G7 bs f s).1 else a) (if i=0 then b else(G7 bs f s).1) (G7 bs f s).2 l
theorem d3R{bs:List Int}{s:Nat×Int}:∀ {l:List Fld},l.length≤2→c1E bs 0 0 0 s l=Y2 bs l s
 | [],_=>rfl
 | [f],_=>rfl
 | [f,g],_=>rfl
 |_::_::_::_,h=>by simp at h
def F8(bs:List Int)(n:Int):Dat×(Nat×Int):=if n<0∨n≥bs.length then(d0v,(0,2)) else c4O bs n.toNat
section
variable{bs es:List Int}{i:Nat}{f:Fld}{s sb sE:Nat×Int}
theorem d2S(h:(G7 bs f s).2.2=0):s.2=0:=by
 by_cases hs:s.2=0
 ·exact hs
 ·rw[d2f hs]at h;exact h
theorem c1N{w:Int}{n:Nat}{acc:List (Int×Int)}(h:s.2≠0):R3 bs w n s acc=(acc,s):=by
 cases n with
 |zero=>rfl
 |succ n=>rw[R3,if_pos h]
theorem a9Y{w:Int}{n:Nat}{acc:List (Int×Int)}(h:(R3 bs w n s acc).2.2=0):s.2=0:=by
 by_cases hs:s.2=0
 ·exact hs
 ·rw[c1N hs]at h;exact h
end
theorem d5S(x:In):1≤(b4n x).length:=by unfold b4n;simp
section
variable{bs l m:List Int}{f:Fld}{s:Nat×Int}{p:Nat}
def Seg(bs:List Int)(p:Nat)(l:List Int):Prop:=p+l.length≤bs.length∧(bs.drop p).take l.length=l
theorem Seg.append(h:Seg bs p l)(g:Seg bs (p+l.length) m):Seg bs p (l++m):=by
 obtain⟨h1,h2⟩:=h
 obtain⟨g1,g2⟩:=g
 refine⟨by rw[List.length_append];omega, ?_⟩
 rw[List.length_append,List.take_add,h2,List.drop_drop,g2]
theorem Seg.nil(h:p≤bs.length):Seg bs p []:=⟨by simpa using h,rfl⟩
theorem b5k(hb:∀b∈bs,a1m b)(h8:f.size≤8)(h:(G7 bs f s).2.2=0):s.2=0∧f.may (G7 bs f s).1=true∧(G7 bs f s).2.1=s.1+f.size∧Seg bs s.1 (H8 (G7 bs f s).1 f.size):=by
 have h0:=d2S h
 obtain⟨p,e⟩:=s
 simp only at h0
 subst h0
 obtain⟨n,q,e,hr⟩:∃n q e,G7 bs f (p,0)=(n,q,e):=⟨_,_,_,rfl⟩
 rw[hr]at h ⊢
 simp only at h
 subst h
 obtain⟨a1,a2,a3,a4⟩:=d7o hb h8 hr
 exact⟨rfl,a1,a2,by rw[u6];simp only;omega,by rw[u6];exact a4⟩
theorem d5d(h:s.1≤bs.length):(G7 bs f s).2.1≤bs.length:=by
 unfold G7
 split
 ·exact h
 split
 ·exact h
 ·split
  ·simp only;omega
  ·exact h
theorem a6A(h:b2z f):f.size≤8:=by
 obtain⟨_,h|h|h⟩:=h<;>omega
theorem b3w{n:Int}(h:b2z f)(hm:f.may n=true):I64 n:=by
 have hm:=of_decide_eq_true hm
 obtain⟨h1,⟨h7,hlo,hhi⟩|⟨h7,hlo,hhi⟩|⟨h8,hlo,hhi⟩⟩:=h
 ·have hle:(2:Int)^(8*f.size)≤2^56:=by
   have:2^(8*f.size)≤2^56:=Nat.pow_le_pow_right (by decide) (by omega)
   exact_mod_cast this
  exact⟨by omega,by omega⟩
 ·have hle:(2:Int)^(8*f.size - 1)≤2^56:=by
   have:2^(8*f.size - 1)≤2^56:=Nat.pow_le_pow_right (by decide) (by omega)
   exact_mod_cast this
  exact⟨by omega,by omega⟩
 ·exact⟨by omega,by omega⟩
theorem c2m(hb:∀b∈bs,a1m b){x:In}:∀ {l:List Fld},(∀f∈l,b2z f)→l.length≤2→s.1≤bs.length→(Y2 bs l s).2.2.2=0→(x.a=(Y2 bs l s).1)→(2≤l.length→x.b=(Y2 bs l s).2.1)→
  a2o x 0 l=true∧Seg bs s.1 (a5b x 0 l)∧(Y2 bs l s).2.2.1=s.1+(a5b x 0 l).length∧I64 x.a∧(2≤l.length→I64 x.b)∧(l.length<2→(Y2 bs l s).2.1=0)∧(l.length<1→x.a=0)
 | [],_,_,hs,h,ha,_=>by
  have ha:x.a=0:=ha
  exact⟨rfl,Seg.nil hs,rfl,by rw[ha];exact⟨by decide,by decide⟩,fun h=>by simp at h,fun _=>rfl,fun _=>ha⟩
 | [f],hg,_,hs,h,ha,_=>by
  have hf:=hg f (by simp)
  obtain⟨h0,h1,h2,h3⟩:=b5k hb (a6A hf) (show(G7 bs f s).2.2=0 from h)
  have ha:x.a=(G7 bs f s).1:=ha
  have hn:x.num 0=(G7 bs f s).1:=ha
  refine⟨by simp[a2o,hn,h1],by simpa [a5b,hn]using h3, ?_,by rw[ha];exact b3w hf h1,fun h=>by simp at h,fun _=>rfl,fun h=>by simp at h⟩
  simp only[a5b,hn,List.append_nil,u6]
  exact h2
 | [f,g],hg,_,hs,h,ha,hbb=>by
  have hf:=hg f (by simp)
  have hg:=hg g (by simp)
  have hb2:x.b=(G7 bs g (G7 bs f s).2).1:=hbb (by simp)
  obtain⟨k0,k1,k2,k3⟩:=b5k hb (a6A hg) (show(G7 bs g (G7 bs f s).2).2.2=0 from h)
  obtain⟨h0,h1,h2,h3⟩:=b5k hb (a6A hf) k0
  have ha:x.a=(G7 bs f s).1:=ha
  have hn:x.num 0=(G7 bs f s).1:=ha
  have hn1:x.num 1=(G7 bs g (G7 bs f s).2).1:=hb2
  refine⟨by simp[a2o,hn,hn1,h1,k1], ?_, ?_,by rw[ha];exact b3w hf h1,fun _=>by rw[hb2];exact b3w hg k1,fun h=>by simp at h,fun h=>by simp at h⟩
  ·simp only[a5b,hn,hn1,List.append_nil]
   refine h3.append ?_
   rw[u6, ←h2];exact k3
  ·simp only[a5b,hn,hn1,List.append_nil,List.length_append,u6]
   show(G7 bs g (G7 bs f s).2).2.1=_
   omega
 |_::_::_::_,_,h,_,_,_,_=>by simp at h
theorem c9y(hb:∀b∈bs,a1m b){w:Int}:∀(n:Nat) (s:Nat×Int) (acc:List (Int×Int)),s.1≤bs.length→(R3 bs w n s acc).2.2=0→
  ∃new,(R3 bs w n s acc).1=acc++new∧new.length=n∧new.all (c3M w)=true∧Seg bs s.1 (a3L new)∧(R3 bs w n s acc).2.1=s.1+(a3L new).length∧(∀y∈new,I64 y.1∧I64 y.2)
 |0,s,acc,hs,h=>⟨[],by simp[R3],rfl,rfl,Seg.nil hs,rfl,fun y hy=>by cases hy⟩
 |n+1,s,acc,hs,h=>by
  have h0:=a9Y h
  have eE:R3 bs w (n+1) s acc=R3 bs w n (G7 bs Q6 (G7 bs (vF w) s).2).2 (acc++[((G7 bs (vF w) s).1,(G7 bs Q6 (G7 bs (vF w) s).2).1)]):=by rw[R3,if_neg (by simp[h0])]
  rw[eE]at h ⊢
  obtain⟨k0,k1,k2,k3⟩:=b5k hb (by decide) (a9Y h:(G7 bs Q6 (G7 bs (vF w) s).2).2.2=0)
  obtain⟨h0,h1,h2,h3⟩:=b5k hb (by show 8≤8;omega) k0
  have hle:(G7 bs Q6 (G7 bs (vF w) s).2).2.1≤bs.length:=by
   have:=k3.1
   rw[u6]at this
   omega
  obtain⟨new,e1,e2,e3,e4,e5,e6⟩:=c9y hb n _ _ hle h
  have sz1:(vF w).size=8:=rfl
  have sz2:Q6.size=4:=rfl
  refine⟨((G7 bs (vF w) s).1,(G7 bs Q6 (G7 bs (vF w) s).2).1)::new,by rw[e1];simp,by simp[e2], ?_, ?_, ?_, ?_⟩
  ·rw[List.all_cons,d1T,h1,k1,e3];rfl
  ·have:a3L (((G7 bs (vF w) s).1,(G7 bs Q6 (G7 bs (vF w) s).2).1)::new)=(H8 (G7 bs (vF w) s).1 8++H8 (G7 bs Q6 (G7 bs (vF w) s).2).1 4)++a3L new:=by simp[a3L,d5M]
   rw[this]
   refine(Seg.append h3 ?_).append ?_
   ·rw[u6, ←h2];exact k3
   ·rw[List.length_append,u6,u6]
    rw[sz1]at h2
    rw[sz2]at k2
    have:s.1+(8+4)=(G7 bs Q6 (G7 bs (vF w) s).2).2.1:=by omega
    rw[sz1,this];exact e4
  ·rw[e5,a3f,a3f,List.length_cons]
   omega
  ·intro y hy
   rcases List.mem_cons.1 hy with rfl|hy
   ·exact⟨b3w (d5C w) h1,b3w c2z k1⟩
   ·exact e6 y hy
theorem d7b(hb:∀b∈bs,a1m b)(hp:p<bs.length){op a b:Int}{arms:List (Int×Int)}{next:Nat}(h:c4O bs p=((op,a,b,arms),(next,0))){x:In}(hx:x.dat=(op,a,b,arms)):
  x.Ok∧isS x=true∧Seg bs p (b4n x)∧next=p+(b4n x).length:=by
 have hlay:lay (bs.getD p 0)≠none:=by
  intro e
  unfold c4O at h
  rw[if_pos e]at h
  have:=congrArg (fun d=>d.2.2) h
  simp at this
 have hX:b8Q bs p=((op,a,b,arms),(next,0)):=by
  unfold c4O at h
  rw[if_neg hlay]at h
  by_cases h0:(b8Q bs p).2.2=0
  ·rw[if_neg (by simp[h0])]at h;exact h
  ·rw[if_pos h0]at h
   have:=congrArg (fun d=>d.2.2) h
   exact(h0 this).elim
 obtain⟨l,hl⟩:=Option.ne_none_iff_exists'.1 hlay
 obtain⟨hx1,hx2,hx3,hx4⟩:x.op=op∧x.a=a∧x.b=b∧x.arms=arms:=by
  have e:=hx
  unfold In.dat at e
  simp only[Prod.mk.injEq]at e
  exact e
 have hgood:=b8d (bs.getD p 0)
 have hlen:=b5K (op:=bs.getD p 0)
 rw[hl]at hgood hlen
 simp only[Option.getD_some]at hgood hlen
 have hby:a1m (bs.getD p 0):=by
  rw[List.getD_eq_getElem?_getD,List.getElem?_eq_getElem hp]
  exact hb _ (List.getElem_mem _)
 have hseg0:Seg bs p [bs.getD p 0]:=by
  refine⟨by simp;omega, ?_⟩
  rw[List.getD_eq_getElem?_getD,List.getElem?_eq_getElem hp]
  show(bs.drop p).take 1=[bs[p]]
  rw[List.drop_eq_getElem_cons hp]
  rfl
 unfold b8Q at hX
 rw[hl,Option.getD_some]at hX
 by_cases h49:bs.getD p 0=49
 ·rw[if_pos h49]at hX
  have hl1:l=[a9o]:=d6n hl h49
  subst hl1
  unfold a9b at hX
  obtain⟨r,hr⟩:∃r,r=Y2 bs [a9o] (p+1,0):=⟨_,rfl⟩
  rw[←hr]at hX
  simp only[Prod.mk.injEq]at hX
  obtain⟨⟨q1,q2,q3,q4⟩,q5⟩:=hX
  have t0:=congrArg Prod.snd q5
  simp only at t0
  obtain⟨u0,u1,u2,u3⟩:=b5k hb (by decide) t0
  have v0:=a9Y u0
  obtain⟨w0,w1,w2,w3⟩:=b5k hb (by decide) v0
  have hop:x.op=49:=by rw[hx1, ←q1]
  have ha:x.a=r.1:=by rw[hx2, ←q2]
  obtain⟨y1,y2,y3,y4,y5,y6,y7⟩:=c2m (x:=x) (s:=(p+1,0)) hb hgood hlen (by simp only;omega) (by rw[←hr];exact w0) (by rw[←hr];exact ha) (fun h=>by simp at h)
  rw[←hr]at y3
  have hle1:r.2.2.1≤bs.length:=by rw[y3];exact y2.1
  have hle2:(G7 bs fIx r.2.2).2.1≤bs.length:=d5d hle1
  obtain⟨new,e1,e2,e3,e4,e5,e6⟩:=c9y hb _ _ _ hle2 u0
  rw[List.nil_append]at e1
  have harms:x.arms=new:=by rw[hx4, ←q4,e1]
  have hb2:=hx3.trans q3.symm
  have hcnt:=of_decide_eq_true w1
  have hcnt0:0≤(G7 bs fIx r.2.2).1∧(G7 bs fIx r.2.2).1≤65535:=hcnt
  have hn:((new.length:Nat):Int)=(G7 bs fIx r.2.2).1:=by rw[e2];omega
  have hlv:=of_decide_eq_true u1
  have hS:isS x=true:=by
   unfold isS
   rw[hop,if_pos rfl,show lay 49=some [a9o]from rfl,Option.getD_some,y1,harms,ha,e3,hb2]
   simp only[Option.isSome_some,Bool.true_and,Bool.and_true,Bool.and_eq_true,decide_eq_true_eq]
   exact⟨by omega,hlv⟩
  have hE:b4n x=[49]++a5b x 0 [a9o]++(H8 (G7 bs fIx r.2.2).1 2++a3L new++H8 x.b 4):=by
   unfold b4n
   rw[hop,if_pos rfl,show lay 49=some [a9o]from rfl,Option.getD_some,harms,hn]
   simp
  have hsg:Seg bs p (b4n x):=by
   rw[hE]
   rw[h49]at hseg0
   refine(hseg0.append y2).append (Seg.append (Seg.append ?_ ?_) ?_)
   ·have:p+([49]++a5b x 0 [a9o]).length=r.2.2.1:=by rw[y3,List.length_append];simp;omega
    rw[this];exact w3
   ·have:p+([49]++a5b x 0 [a9o]).length+(H8 (G7 bs fIx r.2.2).1 2).length=(G7 bs fIx r.2.2).2.1:=by
     rw[w2,y3,List.length_append,u6];show _=_+2;simp;omega
    rw[this];exact e4
   ·have:p+([49]++a5b x 0 [a9o]).length+(H8 (G7 bs fIx r.2.2).1 2++a3L new).length=(R3 bs (IntKind.u8.wrap r.1) (G7 bs fIx r.2.2).1.toNat (G7 bs fIx r.2.2).2 []).2.1:=by
     rw[e5,w2,y3,List.length_append,List.length_append,u6];show _=_+2+_;simp;omega
    rw[this,hb2];exact u3
  refine⟨⟨by rw[hop];decide,y4,by rw[hb2];exact b3w c2z u1,by rw[harms];exact e6,by rw[harms];omega⟩,hS,hsg, ?_⟩
  have t1:=congrArg Prod.fst q5
  simp only at t1
  rw[←t1,u2,e5,w2,y3,hE]
  simp only[List.length_append,u6,List.length_cons,List.length_nil]
  show _+2+_+4=_
  omega
 ·rw[if_neg h49]at hX
  simp only[Prod.mk.injEq]at hX
  obtain⟨⟨q1,q2,q3,q4⟩,q5⟩:=hX
  have t0:=congrArg Prod.snd q5
  simp only at t0
  have hop:x.op=bs.getD p 0:=by rw[hx1, ←q1]
  obtain⟨y1,y2,y3,y4,y5,y6,y7⟩:=c2m (x:=x) (s:=(p+1,0)) hb hgood hlen (by simp only;omega) t0 (by rw[hx2, ←q2]) (fun _=>by rw[hx3, ←q3])
  have harms:x.arms=[]:=by rw[hx4, ←q4]
  have hbz:l.length<2→x.b=0:=fun h=>by rw[hx3, ←q3];exact y6 h
  have hop49:x.op≠49:=by rw[hop];exact h49
  have hlx:lay x.op=some l:=by rw[hop];exact hl
  have hS:isS x=true:=by
   unfold isS
   rw[if_neg hop49,hlx,Option.getD_some,y1,harms]
   simp only[Option.isSome_some,Bool.true_and,List.length_nil,decide_true,Bool.and_eq_true,Bool.or_eq_true,decide_eq_true_eq]
   refine⟨?_, ?_⟩
   ·by_cases h2:2≤l.length
    ·exact .inl h2
    ·exact .inr (hbz (by omega))
   ·by_cases h2:1≤l.length
    ·exact .inl h2
    ·exact .inr (y7 (by omega))
  have hE:b4n x=[bs.getD p 0]++a5b x 0 l:=by
   unfold b4n
   rw[if_neg hop49,hlx,Option.getD_some,hop]
   simp
  refine⟨⟨by rw[hop];exact hby,y4, ?_,(by rw[harms];intro y hy;cases hy),by rw[harms];decide⟩,hS,by rw[hE];exact hseg0.append y2, ?_⟩
  ·by_cases h2:2≤l.length
   ·exact y5 h2
   ·rw[hbz (by omega)];exact⟨by decide,by decide⟩
  ·have t1:=congrArg Prod.fst q5
   simp only at t1
   rw[←t1,y3,hE]
   simp
   omega
end
theorem d5R{bs:List Int}(hb:∀b∈bs,a1m b){n:Int}(h:(F8 bs n).2.2=0){x:In}(hx:x.dat=(F8 bs n).1):
  0≤n∧n.toNat<bs.length∧x.Ok∧isS x=true∧Seg bs n.toNat (b4n x)∧(F8 bs n).2.1=n.toNat+(b4n x).length:=by
 by_cases hn:n<0∨n≥bs.length
 ·unfold F8 at h
  rw[if_pos hn]at h
  simp at h
 ·have hd:F8 bs n=c4O bs n.toNat:=by unfold F8;rw[if_neg hn]
  rw[hd]at h hx ⊢
  obtain⟨d,next,e,hde⟩:∃d next e,c4O bs n.toNat=(d,(next,e)):=⟨_,_,_,rfl⟩
  obtain⟨op,a,b,arms⟩:=d
  rw[hde]at h hx ⊢
  simp only at h hx ⊢
  subst h
  obtain⟨a1,a2,a3,a4⟩:=d7b hb (by omega) hde hx
  exact⟨by omega,by omega,a1,a2,a3,a4⟩
def b1v(bs:List Int):Nat→Nat→Except Int (List (Dat×Nat))
 |0,_=> .ok []
 |n+1,p=>if bs.length≤p then .ok []else if(F8 bs p).2.2=0 then(match b1v bs n (F8 bs p).2.1 with| .ok l=> .ok (((F8 bs p).1,p)::l)| .error e=> .error e) else .error (F8 bs p).2.2
def d2G(done:List (Dat×Nat)):Except Int (List (Dat×Nat))→Except Int (List (Dat×Nat))
 | .ok l=> .ok (done++l)
 | .error e=> .error e
def d6H(op:Int):Option (List Fld):=
 if op=1 then some [⟨1, -128,127⟩]else if op=2 then some [⟨4, -2147483648,2147483647⟩]else if op=3 then some [⟨8, -9223372036854775808,9223372036854775807⟩]
 else if(op==6||op==7||op==8||op==50||op==36||decide (39≤op∧op≤45))=true then some [fIx]else if(op==37||op==38)=true then some [fIx,fIx]
 else if(op==23||op==24)=true then some [⟨1,1,5⟩]else if decide (11≤op∧op≤28)=true then some [a9o]else if op=29 then some [a9o,a9o]
 else if(op==46||op==47||op==48)=true then some [Q6]else if op=52 then some [⟨1,0,255⟩]else if op=49 then some [a9o]else if decide (1≤op∧op≤52)=true then some []else none
theorem d5G(op:Int):d6H op=lay op:=by
 unfold d6H lay
 by_cases h1:op=1
 ·rw[if_pos h1,if_pos h1];rfl
 rw[if_neg h1,if_neg h1]
 by_cases h2:op=2
 ·rw[if_pos h2,if_pos h2];rfl
 rw[if_neg h2,if_neg h2]
 by_cases h3:op=3
 ·rw[if_pos h3,if_pos h3];rfl
 rw[if_neg h3,if_neg h3]
 unfold c8n
 have e:(op==6||op==7||op==8||op==50||op==36||decide (39≤op∧op≤45))=(op==6||op==7||op==8||op==50||op==36||op==39||op==40||op==41||op==42||op==43||op==44||op==45):=by
  rw[Bool.eq_iff_iff]
  simp only[Bool.or_eq_true,beq_iff_eq,decide_eq_true_eq]
  omega
 rw[e]
 by_cases h4:(op==6||op==7||op==8||op==50||op==36||op==39||op==40||op==41||op==42||op==43||op==44||op==45)=true
 ·rw[if_pos h4,if_pos h4]
 rw[if_neg h4,if_neg h4]
 unfold d0u
 by_cases h5:(op==37||op==38)=true
 ·rw[if_pos h5,if_pos h5]
 rw[if_neg h5,if_neg h5]
 unfold c9X
 by_cases h6:(op==23||op==24)=true
 ·rw[if_pos h6,if_pos h6]
 rw[if_neg h6,if_neg h6]
 unfold d0f
 by_cases h7:11≤op∧op≤28
 ·have g1:¬(op==46||op==47||op==48)=true:=by simp only[Bool.or_eq_true,beq_iff_eq];omega
  rw[if_pos (by simpa using h7),if_neg (show ¬op=29 by omega),if_neg g1,if_neg (show ¬op=52 by omega),if_neg (show ¬op=49 by omega),if_pos h7]
 ·have g1:¬decide (11≤op∧op≤28)=true:=by simpa using h7
  rw[if_neg g1]
  by_cases h8:op=29
  ·rw[if_pos h8,if_pos h8]
  rw[if_neg h8,if_neg h8]
  by_cases h9:(op==46||op==47||op==48)=true
  ·rw[if_pos h9,if_pos h9]
  rw[if_neg h9,if_neg h9]
  by_cases h10:op=52
  ·rw[if_pos h10,if_pos h10]
  rw[if_neg h10,if_neg h10]
  by_cases h11:op=49
  ·rw[if_pos h11,if_pos h11]
  rw[if_neg h11,if_neg h11,if_neg h7]
  by_cases h12:1≤op∧op≤52
  ·rw[if_pos (by simpa using h12),if_pos h12]
  ·rw[if_neg (by simpa using h12),if_neg h12]
end Go.Op
end
section
namespace Go.Am
mutual
def frz(k:Nat)(o:D5):D→D
 | .ptr j i=>if j=k then(match o.rows with
  | [cs]=> .elt cs i
  |_=> .any) else .ptr j i
 | .rel j r i sz=>if j=k then(match o.rows[r]? with
  |some row=>if o.sz=sz then .elt row i else .any
  |none=> .any) else .rel j r i sz
 | .raw j i len cap ex sz=>if j=k then(if o.sz=sz∧i+len≤o.rows.length∧len≤cap then .lst ((o.rows.drop i).take len) sz else .any) else .raw j i len cap ex sz
 | .fn f a b=> .fn f (c0E k o a) (c0E k o b)
 | .ifc t v=> .ifc t (frz k o v)
 | .agg cs=> .agg (c0E k o cs)
 | .tup ds=> .tup (c0E k o ds)
 |d=>d
def c0E(k:Nat)(o:D5):List D→List D
 | []=>[]
 |d::ds=>frz k o d::c0E k o ds
end
section
variable{P:Program}{E:j2}{w0:j9}{R:Fz}{S:b8}{H:AHeap}
def d2M(o:D5):Prop:=o.sz<Q3∨∃cs,o.rows=[cs]
mutual
theorem c7x(hC:z7 E R S H){k:Nat}{o:D5}(hk:S k=some o){R':Fz}(hle:R.le R')(hR:d2M o→R' k=some o.acs):∀ {d:D} {v:AV},Rp E R d v→Rp E R' (frz k o d) v
 | .any,v,_=>by simp only[frz,Rp]
 | .bool b,v,h=>by simp only[frz,Rp]at*;exact h
 | .int j n,v,h=>by simp only[frz,Rp]at*;exact h
 | .str s,v,h=>by simp only[frz,Rp]at*;exact h
 | .nilPtr,v,h=>by simp only[frz,Rp]at*;exact h
 | .nilSlc,v,h=>by simp only[frz,Rp]at*;exact h
 | .nilMap,v,h=>by simp only[frz,Rp]at*;exact h
 | .nilFn,v,h=>by simp only[frz,Rp]at*;exact h
 | .nilIfc,v,h=>by simp only[frz,Rp]at*;exact h
 | .mp j,v,h=>by simp only[frz,Rp]at*;exact h
 | .tip j rows sz,v,h=>by
  have:=Rp.le hle _ _ h
  simp only[frz];exact this
 | .elt row i,v,h=>by
  have:=Rp.le hle _ _ h
  simp only[frz];exact this
 | .lst rows sz,v,h=>by
  have:=Rp.le hle _ _ h
  simp only[frz];exact this
 | .ext rows more sz,v,h=>by
  have:=Rp.le hle _ _ h
  simp only[frz];exact this
 | .ptr j i,v,h=>by
  simp only[frz]
  split
  ·rename_i e
   subst e
   split
   ·rename_i cs hcs
    have hc:d2M o:= .inr ⟨_,hcs⟩
    obtain⟨h1,⟨pre,h2⟩,h3,h4,h5⟩:=hC.cells hk hc
    simp only[Rp]at h ⊢
    subst h
    rw[hcs,List.flatten_singleton]at h5
    have e:o.acs.take cs.length=o.acs:=List.take_of_length_le (by rw[h5.length];exact Nat.le_refl _)
    refine⟨.new j,0,o.acs,by rw[Nat.zero_add], ?_, ?_, ?_⟩
    ·exact hR hc
    ·rw[List.drop_zero,e];exact A7.le hle _ _ h5
    ·rw[List.drop_zero,e];exact h3
   ·exact b9f
  ·simp only[Rp]at*;exact h
 | .rel j r i sz,v,h=>by
  simp only[frz]
  split
  ·rename_i e
   subst e
   split
   ·rename_i row hrow
    split
    ·rename_i hsz
     simp only[Rp]at h ⊢
     obtain⟨hzm,rfl⟩:=h
     have hc:d2M o:= .inl (by rw[hsz];exact hzm)
     obtain⟨h1,⟨pre,h2⟩,h3,h4,h5⟩:=hC.cells hk hc
     have hl:row.length=sz:=by rw[h4 row (List.mem_of_getElem? hrow),hsz]
     refine⟨.new j,r*sz,o.acs,rfl, ?_, ?_,M2 (a1y h3 _) _⟩
     ·exact hR hc
     ·have:=(h5.drop (r*sz)).take row.length
      rw[←hsz]at this hl ⊢
      rw[hl,b3k h4 hrow]at this
      rw[hl]
      exact A7.le hle _ _ this
    ·exact b9f
   ·exact b9f
  ·simp only[Rp]at*;exact h
 | .raw j i len cap ex sz,v,h=>by
  simp only[frz]
  split
  ·rename_i e
   subst e
   split
   ·rename_i hc
    have hzm:sz<Q3:=by simp only[Rp]at h;exact h.1
    have hce:d2M o:= .inl (by rw[hc.1];exact hzm)
    refine Rp.le (R:=fun i=>if i=j then some o.acs else R i) (fun i cs e=> ?_) _ _ (b3G hC hk h hc.1 hc.2.1 hc.2.2)
    replace e:(if i=j then some o.acs else R i)=some cs:=e
    split at e
    ·rename_i hi;rw[hi, ←e];exact hR hce
    ·exact hle _ _ e
   ·exact b9f
  ·simp only[Rp]at*;exact h
 | .fn f a b,v,h=>by
  simp only[frz,Rp]at*
  obtain⟨a',b',e1,e2,e3⟩:=h
  exact⟨a',b',e1,b7s hC hk hle hR e2,b7s hC hk hle hR e3⟩
 | .ifc t d,v,h=>by
  simp only[frz,Rp]at*
  obtain⟨v',e1,e2⟩:=h
  exact⟨v',e1,c7x hC hk hle hR e2⟩
 | .agg cs,v,h=>by
  simp only[frz,Rp]at*
  obtain⟨vs,e1,e2,e3⟩:=h
  exact⟨vs,e1,b7s hC hk hle hR e2,e3⟩
 | .tup ds,v,h=>by
  simp only[frz,Rp]at*
  obtain⟨vs,e1,e2⟩:=h
  exact⟨vs,e1,b7s hC hk hle hR e2⟩
theorem b7s(hC:z7 E R S H){k:Nat}{o:D5}(hk:S k=some o){R':Fz}(hle:R.le R')(hR:d2M o→R' k=some o.acs):∀ {ds:List D} {vs:List AV},A7 E R ds vs→A7 E R' (c0E k o ds) vs
 | [],vs,h=>by simp only[c0E,A7]at*;exact h
 |d::ds,vs,h=>by
  simp only[c0E,A7]at*
  obtain⟨v,ws,e1,e2,e3⟩:=h
  exact⟨v,ws,e1,c7x hC hk hle hR e2,b7s hC hk hle hR e3⟩
end
theorem d9.frz{Q:D→b8→Prop}{d:D}{k:Nat}{o:D5}(hk:S k=Option.none)(h:d9 E Q (Am.frz k o d) S):d9 E Q d (S.set k o):=fun R H v hC hd=>by
 by_cases hc:d2M o
 ·obtain⟨h1,h2⟩:=hC.freeze (b8.set_same S k o) hc
  rw[b8.erase_set _ _ _ hk]at h1
  obtain⟨R',S',d',a,b,c,e⟩:=h _ H v h1 (c7x hC (b8.set_same S k o) h2 (fun _=>if_pos rfl) hd)
  exact⟨R',S',d',Fz.le_trans h2 a,b,c,e⟩
 ·have h1:=hC.less (S':=S) fun j x e=>by
   rw[b8.set_ne]
   ·exact e
   ·rintro rfl;rw[hk]at e;cases e
  exact h R H v h1 (c7x hC (b8.set_same S k o) (Fz.le_refl R) (fun h=>absurd h hc) hd)
def Wk(d d':D):Prop:=∀(E:j2) (R:Fz) (v:AV),Rp E R d v→Rp E R d' v
def WkL:List D→List D→Prop
 | [],[]=>True
 |d::ds,e::es=>Wk d e∧WkL ds es
 |_,_=>False
theorem Wk.refl(d:D):Wk d d:=fun _ _ _ h=>h
theorem Wk.any(d:D):Wk d .any:=fun _ _ _ _=>b9f
theorem Wk.nil(sz:Nat):Wk .nilSlc (.lst [] sz):=fun E R v h=>by simp only[Rp]at h ⊢;exact .inl ⟨by trivial,h⟩
theorem Wk.ext(rows more:List (List D))(sz:Nat):Wk (.ext rows more sz) (.lst rows sz):=fun E R v h=>by
 simp only[Rp]at h ⊢
 obtain⟨o,j,cap,ex,z,all,e1,e2,e3,e4,e5,e6,e7,e8,e9⟩:=h
 refine .inr ⟨o,j,cap,ex,z,e1,e2,by omega,e4, ?_⟩
 rcases e6 with e6|⟨e6,_⟩
 rotate_left
 ·exact .inl e6
 refine .inr ⟨all,e6,e7, ?_⟩
 have:=M2 e9 (rows.length*sz)
 rw[List.take_take,Nat.min_eq_left (Nat.mul_le_mul_right _ (by omega))]at this
 exact this
theorem DF.split{f:FuncId}{sz:Nat}{pre post:List D}{S:b8}{Q:D→b8→Prop}(h1:j8 P E w0 f (pre++ .nilSlc::post) S Q)(h2:j8 P E w0 f (pre++ .ext [] [] sz::post) S Q):j8 P E w0 f (pre++ .lst [] sz::post) S Q:=fun R H avs hF hC ha=>by
 obtain⟨v1,v2,rfl,g1,g2⟩:=a5V ha
 simp only[A7]at g2
 obtain⟨w,ws,rfl,g3,g4⟩:=g2
 simp only[Rp]at g3
 rcases g3 with ⟨_,rfl⟩|⟨o,j,cap,ex,z,rfl,f1,f2,_,_⟩
 ·exact h1 R H _ hF hC (g1.append (s9 (by simp only[Rp]) g4))
 ·refine h2 R H _ hF hC (g1.append (s9 ?_ g4))
  simp only[Rp]
  exact⟨o,j,cap,ex,z,[],rfl,f1,by simp,by simp,by simp,by simp,by simp[a2e],by simp[a2e],by simp⟩
theorem WkL.refl:∀ds:List D,WkL ds ds
 | []=>trivial
 |d::ds=>⟨Wk.refl d,WkL.refl ds⟩
theorem WkL.ok:∀ {ds es:List D},WkL ds es→∀ {E:j2} {R:Fz} {vs:List AV},A7 E R ds vs→A7 E R es vs
 | [],[],_,E,R,vs,h=>h
 |d::ds,e::es,w,E,R,vs,h=>by
  simp only[A7]at h ⊢
  obtain⟨v,ws,e1,e2,e3⟩:=h
  exact⟨v,ws,e1,w.1 _ _ _ e2,WkL.ok w.2 e3⟩
 | [],_::_,w,_,_,_,_=>w.elim
 |_::_,[],w,_,_,_,_=>w.elim
theorem Wk.agg{ds es:List D}(w:WkL ds es):Wk (.agg ds) (.agg es):=fun E R v h=>by
 simp only[Rp]at h ⊢
 obtain⟨vs,e1,e2,e3⟩:=h
 exact⟨vs,e1,w.ok e2,e3⟩
theorem Wk.tup{ds es:List D}(w:WkL ds es):Wk (.tup ds) (.tup es):=fun E R v h=>by
 simp only[Rp]at h ⊢
 obtain⟨vs,e1,e2⟩:=h
 exact⟨vs,e1,w.ok e2⟩
theorem d9.weak{Q:D→b8→Prop}{d d':D}(w:Wk d d')(h:d9 E Q d' S):d9 E Q d S:=fun R H v hC hd=>h R H v hC (w _ _ _ hd)
theorem DF.weak{f:FuncId}{ds es:List D}{Q:D→b8→Prop}(w:WkL ds es)(h:j8 P E w0 f es S Q):j8 P E w0 f ds S Q:=fun R H avs hF hC ha=>h R H avs hF hC (w.ok ha)
theorem d9.drop{Q:D→b8→Prop}{d:D}{k:Nat}{o:D5}(hk:S k=Option.none)(h:d9 E Q d S):d9 E Q d (S.set k o):=d9.less (b8.le_new hk) h
theorem d9.pure{d:D}:d9 E (fun d' S'=>d'=d∧S'=S) d S:=d9.here ⟨rfl,rfl⟩
theorem d1f{k i len cap sz:Nat}{ex:Bool}{rows:List (List D)}{acs:List AV}(h:i+len≤rows.length)(hc:len≤cap):Am.frz k ⟨sz,rows,acs⟩ (.raw k i len cap ex sz)= .lst ((rows.drop i).take len) sz:=by
 simp only[Am.frz,if_true];rw[if_pos ⟨by trivial,h,hc⟩]
end
end Go.Am
end
section
open Go.Proofs Go Go.Am Go.Op
namespace Go.Proofs.YtdkidgkiplcggaaGreat.d
section
section
variable{E:j2}{w0:j9}
theorem c7l{w:Int}:K9 Tryz.prog E w0 b2t [.int .u8 w] (.int .i64 (c7K w)):=fun S=>by
 refine c2Z ?_
 unfold b9u c7K
 simp only[a8b,oD,cdB,beq_iff_eq,beq_eq_false_iff_ne,ne_eq]
 refine⟨fun h=> ?_,fun h1=>⟨fun h=> ?_,fun h2=>⟨fun h=> ?_,fun h3=> ?_⟩⟩⟩<;>simp only[*,if_true,if_false]<;>exact d9.pure
theorem c6P{w n:Int}:K9 Tryz.prog E w0 b2p [.int .u8 w, .int .i64 n] (.int .i64 (c5s w n)):=fun S=>by
 refine c1O ?_
 unfold b9D c5s
 simp only[a8b,oD,cdB,beq_iff_eq,beq_eq_false_iff_ne,ne_eq,cvI]
 refine⟨fun h=> ?_,fun h1=>⟨fun h=> ?_,fun h2=>⟨fun h=> ?_,fun h3=> ?_⟩⟩⟩<;>simp only[*,if_true,if_false]<;>exact d9.pure
theorem d5p(n:Int):IntKind.i8.wrap n=if 128≤n % 256 then n % 256 - 256 else n % 256:=by
 simp only[IntKind.wrap,IntKind.bits,IntKind.signed];simp
theorem d4m(n:Int):IntKind.i32.wrap n=if 2147483648≤n % 4294967296 then n % 4294967296 - 4294967296 else n % 4294967296:=by
 simp only[IntKind.wrap,IntKind.bits,IntKind.signed];simp
theorem d4s{w n:Int}(hn:I64 n):(0<c7K w∧c5s w n=n)↔(a3R w≤n∧n≤a3T w):=by
 obtain⟨h0,h1⟩:=hn
 unfold c7K c5s a3R a3T
 by_cases w1:w=1
 ·simp only[if_pos w1]
  rw[d5p,l8 (by split<;>omega) (by split<;>omega)]
  split<;>constructor<;>omega
 simp only[if_neg w1]
 by_cases w2:w=2
 ·simp only[if_pos w2]
  rw[d4m,l8 (by split<;>omega) (by split<;>omega)]
  split<;>constructor<;>omega
 simp only[if_neg w2]
 by_cases w3:w=3
 ·simp only[if_pos w3];exact⟨fun _=>⟨h0,h1⟩,fun _=>⟨by decide,by trivial⟩⟩
 simp only[if_neg w3];constructor<;>omega
theorem c6w{w n:Int}(hn:I64 n):K9 Tryz.prog E w0 b2V [.int .u8 w, .int .i64 n] (.bool (decide (a3R w≤n∧n≤a3T w))):=fun S=>by
 refine c3n ?_
 unfold b9P
 refine c7l.use ?_
 have hi:=d4s (w:=w) hn
 by_cases hb:c7K w>0
 ·simp[hb]
  refine c6P.use ?_
  have e:(c5s w n==n)=decide (a3R w≤n∧n≤a3T w):=by
   by_cases hw:c5s w n=n
   ·rw[decide_eq_true (hi.1 ⟨hb,hw⟩),hw];simp
   ·rw[decide_eq_false (fun h=>hw (hi.2 h).2)];simpa using hw
  simp[e]
  exact d9.pure
 ·have e:decide (a3R w≤n∧n≤a3T w)=false:=decide_eq_false fun h=>hb (hi.2 h).1
  rw[e]
  simp[hb]
  exact d9.pure
def a0y(lo hi:Int):D:= .fn (.func a0B) [] [.elt [.int .i64 lo] 0, .elt [.int .i64 hi] 0]
def a7r(w:Int):D:= .fn (.func a3w) [] [.elt [.int .u8 w] 0]
theorem F0{lo hi:Int}:K9 Tryz.prog E w0 s5 [.int .i64 lo, .int .i64 hi] (a0y lo hi):=fun S=>by
 refine b9d ?_
 unfold b4K
 simp only[clI,oD]
 intro k acs hk k2 acs2 hk2
 obtain⟨hne,hk20⟩:=b8.fresh hk2
 refine d9.frz hk2 (d9.frz hk ?_)
 simp only[Am.frz,c0E,if_true,if_neg hne,if_neg (Ne.symm hne)]
 exact d9.pure
theorem a1w{w:Int}:K9 Tryz.prog E w0 D3 [.int .u8 w] (a7r w):=fun S=>by
 refine c4G ?_
 unfold c2V
 simp only[clI,oD]
 intro k acs hk
 refine d9.frz hk ?_
 simp only[Am.frz,c0E,if_true]
 exact d9.pure
theorem b8v{lo hi n:Int}:K9 Tryz.prog E w0 a0B [.int .i64 n, .elt [.int .i64 lo] 0, .elt [.int .i64 hi] 0] (.bool (decide (lo≤n∧n≤hi))):=fun S=>by
 refine b5h ?_
 unfold b1b
 by_cases h:lo≤n<;>simp[h]<;>exact d9.pure
theorem c4x{w n:Int}(hn:I64 n):K9 Tryz.prog E w0 a3w [.int .i64 n, .elt [.int .u8 w] 0] (.bool (decide (a3R w≤n∧n≤a3T w))):=fun S=>by
 refine c0J ?_
 unfold b6X
 simp only[lsE,List.getElem?_cons_zero,oD]
 exact(c6w hn).use d9.pure
end
end
section
def bD(bs:List Int):D:= .lst (B4 (bs.map (D.int .u8))) 1
theorem d1J{bs:List Int}{i:Nat}{b:Int}(h:bs[i]? =some b):o6 1 (bD bs) (.int .i64 (i:Int))=some (.elt [.int .u8 b] 0):=
 b1X (a6q (by rw[List.getElem?_map,h];rfl))
@[simp] theorem a2C(bs:List Int):m9 (bD bs)=some (.int .i64 bs.length):=by simp[bD]
@[simp] theorem c1u(S:b8)(bs:List Int):rowsS S 1 (bD bs)=some (B4 (bs.map (D.int .u8))):=by simp[bD,rowsS,L5]
theorem a4S(a b:List D):B4 (a++b)=B4 a++B4 b:=by simp[B4]
theorem b7f(l:List D)(i:Nat)(d:D):(B4 l).set i [d]=B4 (l.set i d):=by simp[B4,List.map_set]
theorem c1k{a:Nat}(h:a<2^64):IntKind.u64.wrap (a:Int)=a:=by rw[b2I];omega
theorem b2l{w a:Nat}:(BitVec.ofInt w (a:Int)).toNat=a % 2^w:=by simp
theorem d6J{a b:Nat}(ha:a<2^64)(hb:b<2^64):i4 .or (.int .u64 (a:Int)) (.int .u64 (b:Int))=some (.int .u64 ((a ||| b:Nat):Int)):=by
 rw[d8m]
 show some (D.int .u64 (IntKind.u64.wrap ((BitVec.ofInt 64 (a:Int) ||| BitVec.ofInt 64 (b:Int)).toNat:Int)))=_
 rw[BitVec.toNat_or,b2l,b2l,Nat.mod_eq_of_lt ha,Nat.mod_eq_of_lt hb,c1k (Nat.or_lt_two_pow ha hb)]
theorem d5N{a i:Nat}(hi:i≤64)(h:a*2^i<2^64):i4 .shl (.int .u64 (a:Int)) (.int .i64 (i:Int))=some (.int .u64 ((a*2^i:Nat):Int)):=by
 rw[d6p _ _ _ _ (by omega),Int.toNat_natCast,show IntKind.u64.bits=64 from rfl,Nat.min_eq_left hi]
 have e:(a:Int)*2^i=((a*2^i:Nat):Int):=by simp
 rw[e,c1k h]
theorem d4v{a b i:Nat}(h:a<2^i):a ||| (b*2^i)=a+b*2^i:=by
 have:=Nat.two_pow_add_eq_or_of_lt h b
 rw[Nat.or_comm,Nat.mul_comm b, ←this,Nat.add_comm]
theorem d4Q(n:Int):IntKind.u64.wrap n=(((n % 18446744073709551616).toNat:Nat):Int):=by rw[b2I];omega
section
variable{E:j2}{w0:j9}
theorem a4s{u:Int}{s:Nat}(h1:1≤s)(h8:s≤8):K9 Tryz.prog E w0 a1R [.int .u64 u, .int .i64 (s:Int)] (bD (H8 u s)):=fun S0=>by
 refine c0I ?_
 unfold b6m
 have c1:decide ((s:Int)<1)=false:=decide_eq_false (by omega)
 have c2:decide ((s:Int)>8)=false:=decide_eq_false (by omega)
 simp only[H7,a7w,oD,c1,c2,M4,beq_self_eq_true,vdT,M8,Bool.false_eq_true,if_false,cdF]
 refine d6g (by omega) fun k acs hk=> ?_
 refine b7p (I:=fun n x0 x5 x15 x16 S=>∃(acs:List AV) (i:Nat),i+n=s∧x0= .int .u64 u∧x5= .raw k 0 s s true 1∧x15= .int .i64 (s:Int)∧x16= .int .i64 (i:Int)∧
   S=S0.set k ⟨1,B4 ((H8 u i++List.replicate n 0).map (D.int .u8)),acs⟩) ?_ (n:=s) ⟨acs,0,by omega,rfl,rfl,rfl,rfl,by simp[H8,B4]⟩
 rintro n _ _ _ _ _ ⟨acs,i,hi,rfl,rfl,rfl,rfl,rfl⟩
 unfold a6B
 rw[H7,oD,I6]
 refine⟨fun hlt=> ?_,fun hge=> ?_⟩
 ·obtain⟨n,rfl⟩:∃m,n=m+1:=⟨n - 1,by omega⟩
  rw[d4T,oD,l8 (by omega) (by omega),d1o _ _ _ _ (by omega),oD,cvI,oD,c8P (by omega),oD,Nat.zero_add]
  have hb:IntKind.u8.wrap (u.fdiv (2^(min (8*(i:Int)).toNat IntKind.u64.bits)))=a4f u i:=by
   rw[c1r,show(8*(i:Int)).toNat=8*i by omega,show IntKind.u64.bits=64 from rfl,Nat.min_eq_left (by omega),Int.fdiv_eq_ediv_of_nonneg _ (Int.le_of_lt (Int.pow_pos (by decide)))]
   rfl
  rw[hb]
  have hf:H8 u (i+1)=H8 u i++[a4f u i]:=by simp[H8,List.range_succ]
  have hl:=u6 u i
  refine stR (b8.set_same _ _ _) (a6q (d:= .int .u8 0) ?_) (clI _ _) ⟨rfl,by omega,by simp⟩ fun acs'=> ?_
  ·rw[List.getElem?_map,List.getElem?_append,if_neg (by omega),hl,Nat.sub_self]
   rfl
  ·rw[D7,oD,l8 (by omega) (by omega)]
   refine⟨n,by omega,acs',i+1,by omega,rfl,rfl,rfl,rfl, ?_⟩
   rw[b8.set_set]
   congr 2
   show(B4 _).set i [.int .u8 (a4f u i)]=_
   rw[b7f, ←List.map_set,hf,List.append_assoc]
   congr 2
   rw[List.set_append,if_neg (by omega),hl,Nat.sub_self]
   rfl
 ·obtain rfl:i=s:=by omega
  obtain rfl:n=0:=by omega
  refine d9.frz hk ?_
  rw[d1f (by simp[u6]) (Nat.le_refl _)]
  have:((B4 ((H8 u i++List.replicate 0 0).map (D.int .u8))).drop 0).take i=B4 ((H8 u i).map (D.int .u8)):=by
   simp only[List.replicate_zero,List.append_nil,List.drop_zero]
   exact List.take_of_length_le (by simp[u6])
  rw[this]
  exact d9.pure
theorem c7B{bs:List Int}(hb:∀b∈bs,a1m b)(hl:bs.length<2^60){p s:Nat}(hp:p≤bs.length)(h1:1≤s)(h8:s≤8):K9 Tryz.prog E w0 b2s [bD bs, .int .i64 (p:Int), .int .i64 (s:Int)]
  (if bs.length<p+s then .tup [.int .u64 0, .int .i64 0, .int .i64 10]else .tup [.int .u64 (leN ((bs.drop p).take s):Nat), .int .i64 ((p+s:Nat):Int), .int .i64 0]):=fun S=>by
 refine c3D ?_
 unfold b9z
 have c1:decide ((s:Int)<1)=false:=decide_eq_false (by omega)
 have c2:decide ((s:Int)>8)=false:=decide_eq_false (by omega)
 have c3:decide ((p:Int)<0)=false:=decide_eq_false (by omega)
 have c4:decide ((p:Int)>bs.length)=false:=decide_eq_false (by omega)
 simp only[H7,a7w,oD,c1,c2,c3,cdF,a2C,c4]
 unfold a2h
 simp only[cdF,a2C,oD,b4u,a7w]
 rw[l8 (by omega) (by omega),I6]
 refine⟨fun hs=> ?_,fun hs=> ?_⟩
 ·rw[if_pos (by omega)];exact d9.pure
 rw[if_neg (by omega)]
 refine b8g (I:=fun n x0 x1 x2 x9 x29 x30 S'=>S'=S∧x0=bD bs∧x1= .int .i64 (p:Int)∧x2= .int .i64 (s:Int)∧x29= .int .i64 (s:Int)∧∃i:Nat,x30= .int .i64 (i:Int)∧i+n=s∧x9= .int .u64 ((leN ((bs.drop p).take i):Nat):Int)) ?_ (n:=s)
  ⟨rfl,rfl,rfl,rfl,rfl,0,rfl,by omega,rfl⟩
 rintro n _ _ _ _ _ _ _ ⟨rfl,rfl,rfl,rfl,rfl,i,rfl,hi,rfl⟩
 unfold a8t
 rw[H7,oD,I6]
 refine⟨fun hlt=> ?_,fun hge=> ?_⟩
 ·have hlt2:p+i<bs.length:=by omega
  obtain⟨y,hy⟩:∃y,y=bs[p+i]:=⟨_,rfl⟩
  have hj:bs[p+i]? =some y:=by rw[List.getElem?_eq_getElem hlt2,hy]
  obtain⟨b0,b1⟩:=hb y (by rw[hy];exact List.getElem_mem _)
  obtain⟨xn,hxn⟩:∃xn:Nat,y=(xn:Int):=⟨y.toNat,by omega⟩
  have hbs:∀b∈(bs.drop p).take i,a1m b:=fun b hb'=>hb b (List.mem_of_mem_drop (List.mem_of_mem_take hb'))
  have hlen:((bs.drop p).take i).length=i:=by rw[List.length_take,List.length_drop];omega
  have e3:=c3A hbs
  rw[hlen]at e3
  have htk:(bs.drop p).take (i+1)=(bs.drop p).take i++[y]:=by
   rw[List.take_add_one,List.getElem?_drop,hj];rfl
  have hsn:=c9z ((bs.drop p).take i) y
  rw[←htk,hlen]at hsn
  have e4:=c3A (l:=(bs.drop p).take (i+1)) fun b hb'=>hb b (List.mem_of_mem_drop (List.mem_of_mem_take hb'))
  rw[show((bs.drop p).take (i+1)).length=i+1 by rw[List.length_take,List.length_drop];omega]at e4
  have h3:2^(8*(i+1))≤2^64:=Nat.pow_le_pow_right (by decide) (by omega)
  have h4:2^(8*i)≤2^64:=Nat.pow_le_pow_right (by decide) (by omega)
  have hxt:y.toNat=xn:=by omega
  rw[hxt]at hsn
  rw[D7,oD,l8 (by omega) (by omega),show(p:Int)+(i:Int)=((p+i:Nat):Int) by omega,d1J hj,oD,lsE,List.getElem?_cons_zero,oD,cvI,oD,hxn,c1k (by omega),d4T,oD,l8 (by omega) (by omega),
   show 8*(i:Int)=((8*i:Nat):Int) by omega,d5N (by omega) (by omega),oD,d6J (by omega) (by omega),oD,d4v e3,D7,oD,l8 (by omega) (by omega)]
  exact⟨n - 1,by omega,rfl,rfl,rfl,rfl,rfl,i+1,by simp,by omega,by simp only[hsn]⟩
 ·obtain rfl:i=s:=by omega
  rw[D7,oD,l8 (by omega) (by omega),show(p:Int)+(i:Int)=((p+i:Nat):Int) by omega]
  exact d9.pure
end
end
end Go.Proofs.YtdkidgkiplcggaaGreat.d
end
