/-
  BlocksReachesSaid: part Mat of its proof.
-/
import Derived.Test.YtdkidgkiplcggaaMar
import Derived.Test.YtdkidgkiplcggaaMas
import Derived.Test.YtdkidgkiplcggaaRows
import Derived.KernelRfl
set_option linter.unusedVariables false
set_option linter.unusedSimpArgs false
set_option maxRecDepth 100000
section
open Go.Proofs Go Go.Am Go.Op
namespace Go.Proofs.Ytdkidgkiplcggaa.d
section
section
variable{E:d6}{w0:i5}
theorem b7y{w:Int}:a1o Try.prog E w0 a6v [.int .u8 w] (.int .i64 (b8P w)):=fun S=>by
 refine b3v ?_
 unfold b1V b8P
 simp only[a7j,oD,cdB,beq_iff_eq,beq_eq_false_iff_ne,ne_eq]
 refine⟨fun h=> ?_,fun h1=>⟨fun h=> ?_,fun h2=>⟨fun h=> ?_,fun h3=> ?_⟩⟩⟩<;>simp only[*,if_true,if_false]<;>exact b9.pure
theorem b7o{w n:Int}:a1o Try.prog E w0 a5T [.int .u8 w, .int .i64 n] (.int .i64 (b6a w n)):=fun S=>by
 refine b4u ?_
 unfold b1X b6a
 simp only[a7j,oD,cdB,beq_iff_eq,beq_eq_false_iff_ne,ne_eq,cvI]
 refine⟨fun h=> ?_,fun h1=>⟨fun h=> ?_,fun h2=>⟨fun h=> ?_,fun h3=> ?_⟩⟩⟩<;>simp only[*,if_true,if_false]<;>exact b9.pure
theorem c4s(n:Int):IntKind.i8.wrap n=if 128≤n % 256 then n % 256 - 256 else n % 256:=by
 simp only[IntKind.wrap,IntKind.bits,IntKind.signed];simp
theorem c3n(n:Int):IntKind.i32.wrap n=if 2147483648≤n % 4294967296 then n % 4294967296 - 4294967296 else n % 4294967296:=by
 simp only[IntKind.wrap,IntKind.bits,IntKind.signed];simp
theorem c4c{w n:Int}(hn:I64 n):(0<b8P w∧b6a w n=n)↔(a0u w≤n∧n≤a0s w):=by
 obtain⟨h0,h1⟩:=hn
 unfold b8P b6a a0u a0s
 by_cases w1:w=1
 ·simp only[if_pos w1]
  rw[c4s,g9 (by split<;>omega) (by split<;>omega)]
  split<;>constructor<;>omega
 simp only[if_neg w1]
 by_cases w2:w=2
 ·simp only[if_pos w2]
  rw[c3n,g9 (by split<;>omega) (by split<;>omega)]
  split<;>constructor<;>omega
 simp only[if_neg w2]
 by_cases w3:w=3
 ·simp only[if_pos w3];exact⟨fun _=>⟨h0,h1⟩,fun _=>⟨by decide,by trivial⟩⟩
 simp only[if_neg w3];constructor<;>omega
theorem b7d{w n:Int}(hn:I64 n):a1o Try.prog E w0 a5C [.int .u8 w, .int .i64 n] (.bool (decide (a0u w≤n∧n≤a0s w))):=fun S=>by
 refine b3r ?_
 unfold b1T
 refine b7y.use ?_
 have hi:=c4c (w:=w) hn
 by_cases hb:b8P w>0
 ·simp[hb]
  refine b7o.use ?_
  have e:(b6a w n==n)=decide (a0u w≤n∧n≤a0s w):=by
   by_cases hw:b6a w n=n
   ·rw[decide_eq_true (hi.1 ⟨hb,hw⟩),hw];simp
   ·rw[decide_eq_false (fun h=>hw (hi.2 h).2)];simpa using hw
  simp[e]
  exact b9.pure
 ·have e:decide (a0u w≤n∧n≤a0s w)=false:=decide_eq_false fun h=>hb (hi.2 h).1
  rw[e]
  simp[hb]
  exact b9.pure
def W1(lo hi:Int):D:= .fn (.func L3) [] [.elt [.int .i64 lo] 0, .elt [.int .i64 hi] 0]
def a7d(w:Int):D:= .fn (.func a0a) [] [.elt [.int .u8 w] 0]
theorem B8{lo hi:Int}:a1o Try.prog E w0 l8 [.int .i64 lo, .int .i64 hi] (W1 lo hi):=fun S=>by
 refine b0s ?_
 unfold a7J
 simp only[clI,oD]
 intro k acs hk k2 acs2 hk2
 obtain⟨hne,hk20⟩:=b4.fresh hk2
 refine b9.frz hk2 (b9.frz hk ?_)
 simp only[Am.frz,V1,if_true,if_neg hne,if_neg (Ne.symm hne)]
 exact b9.pure
theorem Y3{w:Int}:a1o Try.prog E w0 A0 [.int .u8 w] (a7d w):=fun S=>by
 refine b5l ?_
 unfold b4q
 simp only[clI,oD]
 intro k acs hk
 refine b9.frz hk ?_
 simp only[Am.frz,V1,if_true]
 exact b9.pure
theorem b0U{lo hi n:Int}:a1o Try.prog E w0 L3 [.int .i64 n, .elt [.int .i64 lo] 0, .elt [.int .i64 hi] 0] (.bool (decide (lo≤n∧n≤hi))):=fun S=>by
 refine a8q ?_
 unfold a5n
 by_cases h:lo≤n<;>simp[h]<;>exact b9.pure
theorem b5u{w n:Int}(hn:I64 n):a1o Try.prog E w0 a0a [.int .i64 n, .elt [.int .u8 w] 0] (.bool (decide (a0u w≤n∧n≤a0s w))):=fun S=>by
 refine b2x ?_
 unfold a9W
 simp only[lsE,List.getElem?_cons_zero,oD]
 exact(b7d hn).use b9.pure
end
end
section
def bD(bs:List Int):D:= .lst (Z7 (bs.map (D.int .u8))) 1
theorem c3u{bs:List Int}{i:Nat}{b:Int}(h:bs[i]? =some b):j5 1 (bD bs) (.int .i64 (i:Int))=some (.elt [.int .u8 b] 0):=
 b5t (b8F (by rw[List.getElem?_map,h];rfl))
@[simp] theorem b0y(bs:List Int):m6 (bD bs)=some (.int .i64 bs.length):=by simp[bD]
@[simp] theorem c7o(S:b4)(bs:List Int):rowsS S 1 (bD bs)=some (Z7 (bs.map (D.int .u8))):=by simp[bD,rowsS,E0]
theorem c2M(l:List D)(i:Nat)(d:D):(Z7 l).set i [d]=Z7 (l.set i d):=by simp[Z7,List.map_set]
theorem b6X{a:Nat}(h:a<2^64):IntKind.u64.wrap (a:Int)=a:=by rw[c2L];omega
theorem b1B{w a:Nat}:(BitVec.ofInt w (a:Int)).toNat=a % 2^w:=by simp
theorem c5P{a b:Nat}(ha:a<2^64)(hb:b<2^64):d4 .or (.int .u64 (a:Int)) (.int .u64 (b:Int))=some (.int .u64 ((a ||| b:Nat):Int)):=by
 rw[c7y]
 show some (D.int .u64 (IntKind.u64.wrap ((BitVec.ofInt 64 (a:Int) ||| BitVec.ofInt 64 (b:Int)).toNat:Int)))=_
 rw[BitVec.toNat_or,b1B,b1B,Nat.mod_eq_of_lt ha,Nat.mod_eq_of_lt hb,b6X (Nat.or_lt_two_pow ha hb)]
theorem c4M{a i:Nat}(hi:i≤64)(h:a*2^i<2^64):d4 .shl (.int .u64 (a:Int)) (.int .i64 (i:Int))=some (.int .u64 ((a*2^i:Nat):Int)):=by
 rw[c5b _ _ _ _ (by omega),Int.toNat_natCast,show IntKind.u64.bits=64 from rfl,Nat.min_eq_left hi]
 have e:(a:Int)*2^i=((a*2^i:Nat):Int):=by simp
 rw[e,b6X h]
theorem c5C{a b i:Nat}(h:a<2^i):a ||| (b*2^i)=a+b*2^i:=by
 have:=Nat.two_pow_add_eq_or_of_lt h b
 rw[Nat.or_comm,Nat.mul_comm b, ←this,Nat.add_comm]
section
variable{E:d6}{w0:i5}
theorem b6P{bs:List Int}(hb:∀b∈bs,W3 b)(hl:bs.length<2^60){p s:Nat}(hp:p≤bs.length)(h1:1≤s)(h8:s≤8):a1o Try.prog E w0 a5P [bD bs, .int .i64 (p:Int), .int .i64 (s:Int)]
  (if bs.length<p+s then .tup [.int .u64 0, .int .i64 0, .int .i64 10]else .tup [.int .u64 (leN ((bs.drop p).take s):Nat), .int .i64 ((p+s:Nat):Int), .int .i64 0]):=fun S=>by
 refine b4L ?_
 unfold b1C
 have c1:decide ((s:Int)<1)=false:=decide_eq_false (by omega)
 have c2:decide ((s:Int)>8)=false:=decide_eq_false (by omega)
 have c3:decide ((p:Int)<0)=false:=decide_eq_false (by omega)
 have c4:decide ((p:Int)>bs.length)=false:=decide_eq_false (by omega)
 simp only[V6,b2q,oD,c1,c2,c3,cdF,b0y,c4]
 unfold V5
 simp only[cdF,b0y,oD,a3V,b2q]
 rw[g9 (by omega) (by omega),cdI]
 refine⟨fun hs=> ?_,fun hs=> ?_⟩
 ·rw[if_pos (by omega)];exact b9.pure
 rw[if_neg (by omega)]
 refine b0S (I:=fun n x0 x1 x2 x9 x29 x30 S'=>S'=S∧x0=bD bs∧x1= .int .i64 (p:Int)∧x2= .int .i64 (s:Int)∧x29= .int .i64 (s:Int)∧∃i:Nat,x30= .int .i64 (i:Int)∧i+n=s∧x9= .int .u64 ((leN ((bs.drop p).take i):Nat):Int)) ?_ (n:=s)
  ⟨rfl,rfl,rfl,rfl,rfl,0,rfl,by omega,rfl⟩
 rintro n _ _ _ _ _ _ _ ⟨rfl,rfl,rfl,rfl,rfl,i,rfl,hi,rfl⟩
 unfold a3T
 rw[V6,oD,cdI]
 refine⟨fun hlt=> ?_,fun hge=> ?_⟩
 ·have hlt2:p+i<bs.length:=by omega
  obtain⟨y,hy⟩:∃y,y=bs[p+i]:=⟨_,rfl⟩
  have hj:bs[p+i]? =some y:=by rw[List.getElem?_eq_getElem hlt2,hy]
  obtain⟨b0,b1⟩:=hb y (by rw[hy];exact List.getElem_mem _)
  obtain⟨xn,hxn⟩:∃xn:Nat,y=(xn:Int):=⟨y.toNat,by omega⟩
  have hbs:∀b∈(bs.drop p).take i,W3 b:=fun b hb'=>hb b (List.mem_of_mem_drop (List.mem_of_mem_take hb'))
  have hlen:((bs.drop p).take i).length=i:=by rw[List.length_take,List.length_drop];omega
  have e3:=b4o hbs
  rw[hlen]at e3
  have htk:(bs.drop p).take (i+1)=(bs.drop p).take i++[y]:=by
   rw[List.take_add_one,List.getElem?_drop,hj];rfl
  have hsn:=b7Q ((bs.drop p).take i) y
  rw[←htk,hlen]at hsn
  have e4:=b4o (l:=(bs.drop p).take (i+1)) fun b hb'=>hb b (List.mem_of_mem_drop (List.mem_of_mem_take hb'))
  rw[show((bs.drop p).take (i+1)).length=i+1 by rw[List.length_take,List.length_drop];omega]at e4
  have h3:2^(8*(i+1))≤2^64:=Nat.pow_le_pow_right (by decide) (by omega)
  have h4:2^(8*i)≤2^64:=Nat.pow_le_pow_right (by decide) (by omega)
  have hxt:y.toNat=xn:=by omega
  rw[hxt]at hsn
  rw[C6,oD,g9 (by omega) (by omega),show(p:Int)+(i:Int)=((p+i:Nat):Int) by omega,c3u hj,oD,lsE,List.getElem?_cons_zero,oD,cvI,oD,hxn,b6X (by omega),c5i,oD,g9 (by omega) (by omega),
   show 8*(i:Int)=((8*i:Nat):Int) by omega,c4M (by omega) (by omega),oD,c5P (by omega) (by omega),oD,c5C e3,C6,oD,g9 (by omega) (by omega)]
  exact⟨n - 1,by omega,rfl,rfl,rfl,rfl,rfl,i+1,by simp,by omega,by simp only[hsn]⟩
 ·obtain rfl:i=s:=by omega
  rw[C6,oD,g9 (by omega) (by omega),show(p:Int)+(i:Int)=((p+i:Nat):Int) by omega]
  exact b9.pure
end
end
end Go.Proofs.Ytdkidgkiplcggaa.d
end
section
open Go.Proofs Go Go.Am
namespace Go.Proofs.Ytdkidgkiplcggaa.d
def D2:List (Nat×List Nat):=[]
def D1:List (Nat×List Nat):=[(89,[0,4,5,6,13,29]),(101,[0,4,5,6,13,44]),(113,[0,5,6,13,50]),(137,[0,5,6,13,61])]
def C9:List (Nat×Arr):=[]
noncomputable def b1y:Code:=(f0 [1,1,1,0,1,0,1,1,1,1,1,1,1,1,1,1,1,1,1,1,1] (Try.f60.body.getD .skip))
def a9o(E:d6)(w0:i5)(Q:D→b4→Prop):j2→List D→b4→Prop:=
 (i4 0 (J0 Try.prog E w0 D2 D1 C9 (f0 [1,1,1,1] (Try.f60.body.getD .skip)) (E3 Try.prog Try.f60 Q)))
def a4o(E:d6)(w0:i5)(Q:D→b4→Prop)(x0 x5 x6 x13 x61:D)(S:b4):Prop:=
 g8 x61
 (b5 (s8 S 2 x5) fun v56=>
 I4 S 2 (s4 2 (List.replicate 1 [(.int .i64 0), .nilFn]) [(0,v56)]) 1 fun v57 S58=>
 Q (.tup [v57,(.bool true)]) S58)
 (b5 (d4 .eql x13 (.int .u8 52)) fun v59=>
 g8 v59
 (r8 Try.prog E w0 l8 [(.int .i64 0),(.int .i64 255)] S fun v60 S61=>
 b5 (E4 (s9 [(.int .i64 0), .nilFn] [(0,1,(.int .i64 1)),(1,1,v60)])) fun v62=>
 I4 S61 2 (s4 2 (List.replicate 1 [(.int .i64 0), .nilFn]) [(0,v62)]) 1 fun v63 S64=>
 Q (.tup [v63,(.bool true)]) S64)
 (b5 (d4 .eql x13 (.int .u8 49)) fun v65=>
 g8 v65
 (b5 (s8 S 2 x6) fun v66=>
 I4 S 2 (s4 2 (List.replicate 1 [(.int .i64 0), .nilFn]) [(0,v66)]) 1 fun v67 S68=>
 Q (.tup [v67,(.bool true)]) S68)
 (b5 (d4 .geq x0 (.int .u8 11)) fun v69=>
 b5 (d9 (b7 v69 true) (some x0)) fun v70=>
 b5 (d9 (b7 v69 true) (d4 .leq v70 (.int .u8 28))) fun v71=>
 b5 (H5 v69 v71 (.bool false)) fun v72=>
 g8 v72
 (b5 (s8 S 2 x6) fun v73=>
 I4 S 2 (s4 2 (List.replicate 1 [(.int .i64 0), .nilFn]) [(0,v73)]) 1 fun v74 S75=>
 Q (.tup [v74,(.bool true)]) S75)
 (b5 (d4 .geq x0 (.int .u8 1)) fun v76=>
 b5 (d9 (b7 v76 true) (some x0)) fun v77=>
 b5 (d9 (b7 v76 true) (d4 .leq v77 (.int .u8 52))) fun v78=>
 b5 (H5 v76 v78 (.bool false)) fun v79=>
 Q (.tup [.nilSlc,v79]) S))))
def J4(E:d6)(w0:i5)(Q:D→b4→Prop)(x0 x5 x6 x13 x61:D)(S:b4):Prop:=b8 Try.prog E w0 b1y (d8 90 [0,5,6,13,61] [x0,x5,x6,x13,x61]) S (a9o E w0 Q)
theorem a7A{E:d6}{w0:i5}{Q:D→b4→Prop}{x0 x5 x6 x13 x61:D}{S:b4}(h:a4o E w0 Q x0 x5 x6 x13 x61 S):J4 E w0 Q x0 x5 x6 x13 x61 S:=d5 D2 D1 C9 mixed (by kernel_rfl) h
noncomputable def b0X:Code:=(f0 [1,1,1,0,1,0,1,1,1,1,1,1,1,1,1,1,1] (Try.f60.body.getD .skip))
def a9q(E:d6)(w0:i5)(Q:D→b4→Prop):j2→List D→b4→Prop:=
 (i4 0 (J0 Try.prog E w0 D2 D1 C9 (f0 [1,1,1,1] (Try.f60.body.getD .skip)) (E3 Try.prog Try.f60 Q)))
def a4f(E:d6)(w0:i5)(Q:D→b4→Prop)(x0 x5 x6 x13 x50:D)(S:b4):Prop:=
 g8 x50
 (r8 Try.prog E w0 l8 [(.int .i64 1),(.int .i64 5)] S fun v46 S47=>
 b5 (E4 (s9 [(.int .i64 0), .nilFn] [(0,1,(.int .i64 1)),(1,1,v46)])) fun v48=>
 I4 S47 2 (s4 2 (List.replicate 1 [(.int .i64 0), .nilFn]) [(0,v48)]) 1 fun v49 S50=>
 Q (.tup [v49,(.bool true)]) S50)
 (b5 (d4 .eql x13 (.int .u8 29)) fun v51=>
 g8 v51
 (b5 (s8 S 2 x6) fun v52=>
 b5 (s8 S 2 x6) fun v53=>
 I4 S 2 (s4 2 (List.replicate 2 [(.int .i64 0), .nilFn]) [(0,v52),(1,v53)]) 2 fun v54 S55=>
 Q (.tup [v54,(.bool true)]) S55)
 (b5 (d4 .eql x13 (.int .u8 46)) fun v80=>
 g8 v80
 (J4 E w0 Q x0 x5 x6 x13 v80 S)
 (b5 (d4 .eql x13 (.int .u8 47)) fun v81=>
 g8 v81
 (J4 E w0 Q x0 x5 x6 x13 v81 S)
 (b5 (d4 .eql x13 (.int .u8 48)) fun v82=>
 J4 E w0 Q x0 x5 x6 x13 v82 S))))
def Q8(E:d6)(w0:i5)(Q:D→b4→Prop)(x0 x5 x6 x13 x50:D)(S:b4):Prop:=b8 Try.prog E w0 b0X (d8 90 [0,5,6,13,50] [x0,x5,x6,x13,x50]) S (a9q E w0 Q)
theorem a7r{E:d6}{w0:i5}{Q:D→b4→Prop}{x0 x5 x6 x13 x50:D}{S:b4}(h:a4f E w0 Q x0 x5 x6 x13 x50 S):Q8 E w0 Q x0 x5 x6 x13 x50 S:=d5 D2 D1 C9 mixed (by kernel_rfl) h
noncomputable def b1o:Code:=(f0 [1,1,1,0,1,0,1,1,1,1,1,1,1,1,1] (Try.f60.body.getD .skip))
def a9X(E:d6)(w0:i5)(Q:D→b4→Prop):j2→List D→b4→Prop:=
 (i4 0 (J0 Try.prog E w0 D2 D1 C9 (f0 [1,1,1,1] (Try.f60.body.getD .skip)) (E3 Try.prog Try.f60 Q)))
def a4p(E:d6)(w0:i5)(Q:D→b4→Prop)(x0 x4 x5 x6 x13 x44:D)(S:b4):Prop:=
 g8 x44
 (b5 (s8 S 2 x4) fun v42=>
 b5 (s8 S 2 x4) fun v43=>
 I4 S 2 (s4 2 (List.replicate 2 [(.int .i64 0), .nilFn]) [(0,v42),(1,v43)]) 2 fun v44 S45=>
 Q (.tup [v44,(.bool true)]) S45)
 (b5 (d4 .eql x13 (.int .u8 23)) fun v83=>
 g8 v83
 (Q8 E w0 Q x0 x5 x6 x13 v83 S)
 (b5 (d4 .eql x13 (.int .u8 24)) fun v84=>
 Q8 E w0 Q x0 x5 x6 x13 v84 S))
def T9(E:d6)(w0:i5)(Q:D→b4→Prop)(x0 x4 x5 x6 x13 x44:D)(S:b4):Prop:=b8 Try.prog E w0 b1o (d8 90 [0,4,5,6,13,44] [x0,x4,x5,x6,x13,x44]) S (a9X E w0 Q)
theorem a7o{E:d6}{w0:i5}{Q:D→b4→Prop}{x0 x4 x5 x6 x13 x44:D}{S:b4}(h:a4p E w0 Q x0 x4 x5 x6 x13 x44 S):T9 E w0 Q x0 x4 x5 x6 x13 x44 S:=d5 D2 D1 C9 mixed (by kernel_rfl) h
noncomputable def b2j:Code:=(f0 [1,1,1,0,1,0,1,1,1,1,1,1,1] (Try.f60.body.getD .skip))
def b1m(E:d6)(w0:i5)(Q:D→b4→Prop):j2→List D→b4→Prop:=
 (i4 0 (J0 Try.prog E w0 D2 D1 C9 (f0 [1,1,1,1] (Try.f60.body.getD .skip)) (E3 Try.prog Try.f60 Q)))
def a5o(E:d6)(w0:i5)(Q:D→b4→Prop)(x0 x4 x5 x6 x13 x29:D)(S:b4):Prop:=
 g8 x29
 (b5 (s8 S 2 x4) fun v39=>
 I4 S 2 (s4 2 (List.replicate 1 [(.int .i64 0), .nilFn]) [(0,v39)]) 1 fun v40 S41=>
 Q (.tup [v40,(.bool true)]) S41)
 (b5 (d4 .eql x13 (.int .u8 37)) fun v85=>
 g8 v85
 (T9 E w0 Q x0 x4 x5 x6 x13 v85 S)
 (b5 (d4 .eql x13 (.int .u8 38)) fun v86=>
 T9 E w0 Q x0 x4 x5 x6 x13 v86 S))
def o8(E:d6)(w0:i5)(Q:D→b4→Prop)(x0 x4 x5 x6 x13 x29:D)(S:b4):Prop:=b8 Try.prog E w0 b2j (d8 90 [0,4,5,6,13,29] [x0,x4,x5,x6,x13,x29]) S (b1m E w0 Q)
theorem a8l{E:d6}{w0:i5}{Q:D→b4→Prop}{x0 x4 x5 x6 x13 x29:D}{S:b4}(h:a5o E w0 Q x0 x4 x5 x6 x13 x29 S):o8 E w0 Q x0 x4 x5 x6 x13 x29 S:=d5 D2 D1 C9 mixed (by kernel_rfl) h
def a9u(E:d6)(w0:i5)(Q:D→b4→Prop)(a0:D)(S:b4):Prop:=
 r8 Try.prog E w0 l8 [(.int .i64 0),(.int .i64 65535)] S fun v0 S1=>
 b5 (E4 (s9 [(.int .i64 0), .nilFn] [(0,1,(.int .i64 2)),(1,1,v0)])) fun v2=>
 r8 Try.prog E w0 l8 [(.int .i64 0),(.int .i64 4294967295)] S1 fun v3 S4=>
 b5 (E4 (s9 [(.int .i64 0), .nilFn] [(0,1,(.int .i64 4)),(1,1,v3)])) fun v5=>
 q7 S4 [(.int .i64 0), .nilFn] fun v6 S7=>
 q7 S7 [(.int .i64 0), .nilFn] fun v8 S9=>
 j4 S9 2 v6 v2 fun v10 S11=>
 j4 S11 2 v8 v5 fun v12 S13=>
 r8 Try.prog E w0 l8 [(.int .i64 1),(.int .i64 3)] S13 fun v14 S15=>
 b5 (E4 (s9 [(.int .i64 0), .nilFn] [(0,1,(.int .i64 1)),(1,1,v14)])) fun v16=>
 q7 S15 [(.int .i64 0), .nilFn] fun v17 S18=>
 j4 S18 2 v17 v16 fun v19 S20=>
 b5 (d4 .eql a0 (.int .u8 1)) fun v21=>
 g8 v21
 (r8 Try.prog E w0 A0 [(.int .u8 1)] S20 fun v22 S23=>
 b5 (E4 (s9 [(.int .i64 0), .nilFn] [(0,1,(.int .i64 1)),(1,1,v22)])) fun v24=>
 I4 S23 2 (s4 2 (List.replicate 1 [(.int .i64 0), .nilFn]) [(0,v24)]) 1 fun v25 S26=>
 Q (.tup [v25,(.bool true)]) S26)
 (b5 (d4 .eql a0 (.int .u8 2)) fun v27=>
 g8 v27
 (r8 Try.prog E w0 A0 [(.int .u8 2)] S20 fun v28 S29=>
 b5 (E4 (s9 [(.int .i64 0), .nilFn] [(0,1,(.int .i64 4)),(1,1,v28)])) fun v30=>
 I4 S29 2 (s4 2 (List.replicate 1 [(.int .i64 0), .nilFn]) [(0,v30)]) 1 fun v31 S32=>
 Q (.tup [v31,(.bool true)]) S32)
 (b5 (d4 .eql a0 (.int .u8 3)) fun v33=>
 g8 v33
 (r8 Try.prog E w0 A0 [(.int .u8 3)] S20 fun v34 S35=>
 b5 (E4 (s9 [(.int .i64 0), .nilFn] [(0,1,(.int .i64 8)),(1,1,v34)])) fun v36=>
 I4 S35 2 (s4 2 (List.replicate 1 [(.int .i64 0), .nilFn]) [(0,v36)]) 1 fun v37 S38=>
 Q (.tup [v37,(.bool true)]) S38)
 (b5 (d4 .eql a0 (.int .u8 6)) fun v87=>
 g8 v87
 (o8 E w0 Q a0 v6 v8 v17 a0 v87 S20)
 (b5 (d4 .eql a0 (.int .u8 7)) fun v88=>
 g8 v88
 (o8 E w0 Q a0 v6 v8 v17 a0 v88 S20)
 (b5 (d4 .eql a0 (.int .u8 8)) fun v89=>
 g8 v89
 (o8 E w0 Q a0 v6 v8 v17 a0 v89 S20)
 (b5 (d4 .eql a0 (.int .u8 50)) fun v90=>
 g8 v90
 (o8 E w0 Q a0 v6 v8 v17 a0 v90 S20)
 (b5 (d4 .eql a0 (.int .u8 36)) fun v91=>
 g8 v91
 (o8 E w0 Q a0 v6 v8 v17 a0 v91 S20)
 (b5 (d4 .eql a0 (.int .u8 39)) fun v92=>
 g8 v92
 (o8 E w0 Q a0 v6 v8 v17 a0 v92 S20)
 (b5 (d4 .eql a0 (.int .u8 40)) fun v93=>
 g8 v93
 (o8 E w0 Q a0 v6 v8 v17 a0 v93 S20)
 (b5 (d4 .eql a0 (.int .u8 41)) fun v94=>
 g8 v94
 (o8 E w0 Q a0 v6 v8 v17 a0 v94 S20)
 (b5 (d4 .eql a0 (.int .u8 42)) fun v95=>
 g8 v95
 (o8 E w0 Q a0 v6 v8 v17 a0 v95 S20)
 (b5 (d4 .eql a0 (.int .u8 43)) fun v96=>
 g8 v96
 (o8 E w0 Q a0 v6 v8 v17 a0 v96 S20)
 (b5 (d4 .eql a0 (.int .u8 44)) fun v97=>
 g8 v97
 (o8 E w0 Q a0 v6 v8 v17 a0 v97 S20)
 (b5 (d4 .eql a0 (.int .u8 45)) fun v98=>
 o8 E w0 Q a0 v6 v8 v17 a0 v98 S20))))))))))))))
theorem b2k{E:d6}{w0:i5}{Q:D→b4→Prop}{a0:D}{S:b4}(h:a9u E w0 (b9 E Q) a0 S):r8 Try.prog E w0 a4K [a0] S Q:=
 o6 D2 D1 C9 (fn:=Try.f60) (c:=Try.f60.body.getD .skip) mixed Try.func60 (by kernel_rfl) (by kernel_rfl) h
end Go.Proofs.Ytdkidgkiplcggaa.d
end
section
open Go.Proofs Go Go.Am Go.Op
namespace Go.Proofs.Ytdkidgkiplcggaa.d
section
def fR(l:List Fld):List (List D):=l.map fun f=>[.int .i64 (f.size:Int),W1 f.lo f.hi]
def a6h(op:Int):List (List D):=if op=1 then[[.int .i64 1,a7d 1]]else if op=2 then[[.int .i64 4,a7d 2]]else if op=3 then[[.int .i64 8,a7d 3]]else fR ((lay op).getD [])
section
variable{E:d6}{w0:i5}{S:b4}{Q:D→b4→Prop}{k4 k5 k6:Nat}{a4 a5 a6:List AV}{op:Int}{b:Bool}
theorem a2N{n:Int}{v:D}(h:s6 v=some [v]):E4 (s9 [(.int .i64 0), .nilFn] [(0,1,(.int .i64 n)),(1,1,v)])=some (.agg [.int .i64 n,v]):=by
 simp[s9,h,o5]
@[simp] theorem a9M(lo hi:Int):s6 (W1 lo hi)=some [W1 lo hi]:=(rfl)
@[simp] theorem b5V(w:Int):s6 (a7d w)=some [a7d w]:=(rfl)
theorem a1T{n:Int}{v:D}{K:D→b4→Prop}(h:K (.lst [[.int .i64 n,v]] 2) S):I4 S 2 (s4 2 (List.replicate 1 [(.int .i64 0), .nilFn]) [(0, .agg [.int .i64 n,v])]) 1 K:=by
 simp only[s4,clA,List.length_cons,List.length_nil,List.replicate,List.set]
 rw[if_pos (by decide)]
 exact I8 rfl h
theorem c0J{n:Int}{v:D}{K:D→b4→Prop}(h:K (.lst [[.int .i64 n,v],[.int .i64 n,v]] 2) S):I4 S 2 (s4 2 (List.replicate 2 [(.int .i64 0), .nilFn]) [(0, .agg [.int .i64 n,v]),(1, .agg [.int .i64 n,v])]) 2 K:=by
 simp only[s4,clA,List.length_cons,List.length_nil,List.replicate,List.set]
 rw[if_pos (by decide),if_pos (by decide)]
 exact I8 rfl h
theorem bx{k:Nat}{n:Int}{v:D}{acs:List AV}(h:S k=some ⟨2,[[.int .i64 n,v]],acs⟩):s8 S 2 (.ptr k 0)=some (.agg [.int .i64 n,v]):=laP h ⟨by decide,by simp⟩
theorem b9P(h5:S k5=some ⟨2,[[.int .i64 4,W1 0 4294967295]],a5⟩)(h6:S k6=some ⟨2,[[.int .i64 1,W1 1 3]],a6⟩)(hQ:b9 E Q (.tup [.lst (fR ((c1N b op).getD [])) 2, .bool (c1N b op).isSome]) S):
  J4 E w0 (b9 E Q) (.int .u8 op) (.ptr k5 0) (.ptr k6 0) (.int .u8 op) (.bool b) S:=by
 refine a7A ?_
 unfold a4o
 unfold c1N at hQ
 have nilq:b9 E Q (.tup [.lst [] 2, .bool true]) S→b9 E Q (.tup [.nilSlc, .bool true]) S:=fun h=>b9.nilT (lp:=[]) (sz:=2) h
 have nilf:b9 E Q (.tup [.lst [] 2, .bool false]) S→b9 E Q (.tup [.nilSlc, .bool false]) S:=fun h=>b9.nilT (lp:=[]) (sz:=2) h
 cases b with
 |true=>rw[cdT,bx h5,oD];exact a1T hQ
 |false=>
  rw[cdF,a7j,oD,cdB]
  simp only[Bool.false_eq_true,if_false]at hQ
  refine⟨fun h=> ?_,fun h=> ?_⟩
  ·rw[if_pos (by simpa using h)]at hQ
   refine B8.use ?_
   rw[a2N (a9M _ _),oD]
   exact a1T hQ
  rw[if_neg (by simpa using h)]at hQ
  rw[a7j,oD,cdB]
  refine⟨fun h=> ?_,fun h=> ?_⟩
  ·rw[if_pos (by simpa using h)]at hQ;rw[bx h6,oD];exact a1T hQ
  rw[if_neg (by simpa using h)]at hQ
  by_cases h1:11≤op
  ·by_cases h2:op≤28
   ·rw[if_pos ⟨h1,h2⟩]at hQ
    simp[h1,h2,bx h6]
    exact a1T hQ
   ·rw[if_neg (by omega)]at hQ
    simp[h1,h2]
    by_cases h3:op≤52
    ·rw[if_pos (by omega)]at hQ
     simp[show(1:Int)≤op by omega,h3]
     exact nilq hQ
    ·rw[if_neg (by omega)]at hQ
     simp[show(1:Int)≤op by omega,h3]
     exact nilf hQ
  ·rw[if_neg (by omega)]at hQ
   simp[h1]
   by_cases h3:1≤op
   ·rw[if_pos (by omega)]at hQ
    simp[h3,show op≤52 by omega]
    exact nilq hQ
   ·rw[if_neg (by omega)]at hQ
    simp[h3]
    exact nilf hQ
theorem c2J(h5:S k5=some ⟨2,[[.int .i64 4,W1 0 4294967295]],a5⟩)(h6:S k6=some ⟨2,[[.int .i64 1,W1 1 3]],a6⟩)(hQ:b9 E Q (.tup [.lst (fR ((c2a b op).getD [])) 2, .bool (c2a b op).isSome]) S):
  Q8 E w0 (b9 E Q) (.int .u8 op) (.ptr k5 0) (.ptr k6 0) (.int .u8 op) (.bool b) S:=by
 refine a7r ?_
 unfold a4f
 unfold c2a at hQ
 cases b with
 |true=>
  rw[cdT]
  refine B8.use ?_
  rw[a2N (a9M _ _),oD]
  exact a1T hQ
 |false=>
  rw[cdF,a7j,oD,cdB]
  simp only[Bool.false_eq_true,if_false]at hQ
  refine⟨fun h=> ?_,fun h=> ?_⟩
  ·rw[if_pos (by simpa using h)]at hQ;rw[bx h6,oD,oD];exact c0J hQ
  rw[if_neg (by simpa using h)]at hQ
  simp only[a7j,oD,cdB]
  refine⟨fun h=> ?_,fun h=>⟨fun h'=> ?_,fun h'=> ?_⟩⟩
  ·rw[h];refine b9P h5 h6 ?_;simpa [h]using hQ
  ·rw[h'];refine b9P h5 h6 ?_;simpa [h,h']using hQ
  ·refine b9P h5 h6 ?_;simpa [h,h']using hQ
theorem c2Z(h4:S k4=some ⟨2,[[.int .i64 2,W1 0 65535]],a4⟩)(h5:S k5=some ⟨2,[[.int .i64 4,W1 0 4294967295]],a5⟩)(h6:S k6=some ⟨2,[[.int .i64 1,W1 1 3]],a6⟩)(hQ:b9 E Q (.tup [.lst (fR ((c1G b op).getD [])) 2, .bool (c1G b op).isSome]) S):
  T9 E w0 (b9 E Q) (.int .u8 op) (.ptr k4 0) (.ptr k5 0) (.ptr k6 0) (.int .u8 op) (.bool b) S:=by
 refine a7o ?_
 unfold a4p
 unfold c1G at hQ
 cases b with
 |true=>rw[cdT,bx h4,oD,oD];exact c0J hQ
 |false=>
  rw[cdF]
  simp only[Bool.false_eq_true,if_false]at hQ
  simp only[a7j,oD,cdB]
  refine⟨fun h=> ?_,fun h=> ?_⟩
  ·rw[h];refine c2J h5 h6 ?_;simpa [h]using hQ
  ·refine c2J h5 h6 ?_;simpa [h]using hQ
theorem c6n(h4:S k4=some ⟨2,[[.int .i64 2,W1 0 65535]],a4⟩)(h5:S k5=some ⟨2,[[.int .i64 4,W1 0 4294967295]],a5⟩)(h6:S k6=some ⟨2,[[.int .i64 1,W1 1 3]],a6⟩)(hQ:b9 E Q (.tup [.lst (fR ((b9A b op).getD [])) 2, .bool (b9A b op).isSome]) S):
  o8 E w0 (b9 E Q) (.int .u8 op) (.ptr k4 0) (.ptr k5 0) (.ptr k6 0) (.int .u8 op) (.bool b) S:=by
 refine a8l ?_
 unfold a5o
 unfold b9A at hQ
 cases b with
 |true=>rw[cdT,bx h4,oD];exact a1T hQ
 |false=>
  rw[cdF]
  simp only[Bool.false_eq_true,if_false]at hQ
  simp only[a7j,oD,cdB]
  refine⟨fun h=> ?_,fun h=> ?_⟩
  ·rw[h];refine c2Z h4 h5 h6 ?_;simpa [h]using hQ
  ·refine c2Z h4 h5 h6 ?_;simpa [h]using hQ
theorem b5y:a1o Try.prog E w0 a4K [.int .u8 op] (.tup [.lst (a6h op) 2, .bool (lay op).isSome]):=fun S0=>by
 refine b2k ?_
 unfold a9u
 refine B8.use ?_
 rw[a2N (a9M _ _),oD]
 refine B8.use ?_
 rw[a2N (a9M _ _),oD]
 intro k4 a4 n4 k5 a5 n5
 obtain⟨ne5,n5'⟩:=b4.fresh n5
 refine stP (ds:=[.int .i64 2,W1 0 65535]) (by rw[b4.set_ne _ _ _ (Ne.symm ne5)];exact b4.set_same _ _ _) (clA _) ⟨rfl,by decide,by simp⟩ fun a4=> ?_
 rw[b4.set_in _ (Ne.symm ne5)]
 refine stP (ds:=[.int .i64 4,W1 0 4294967295]) (b4.set_same _ _ _) (clA _) ⟨rfl,by decide,by simp⟩ fun a5=> ?_
 rw[b4.set_set]
 refine B8.use ?_
 rw[a2N (a9M _ _),oD]
 intro k6 a6 n6
 refine stP (ds:=[.int .i64 1,W1 1 3]) (b4.set_same _ _ _) (clA _) ⟨rfl,by decide,by simp⟩ fun a6=> ?_
 rw[b4.set_set]
 obtain⟨ne6,n6'⟩:=b4.fresh n6
 obtain⟨ne6',n6''⟩:=b4.fresh n6'
 generalize hS:((S0.set k4 _).set k5 _).set k6 _=S
 have hle:S0.le S:=by rw[←hS];exact b4.le_set (b4.le_set (b4.le_new n4) n5') n6''
 have h6:S k6=some ⟨2,[[.int .i64 1,W1 1 3]],a6⟩:=by rw[←hS];exact b4.set_same _ _ _
 have h5:S k5=some ⟨2,[[.int .i64 4,W1 0 4294967295]],a5⟩:=by rw[←hS,b4.set_ne _ _ _ (Ne.symm ne6)];exact b4.set_same _ _ _
 have h4:S k4=some ⟨2,[[.int .i64 2,W1 0 65535]],a4⟩:=by rw[←hS,b4.set_ne _ _ _ (Ne.symm ne6'),b4.set_ne _ _ _ (Ne.symm ne5)];exact b4.set_same _ _ _
 have hQ:b9 E (fun d' S'=>d'= .tup [.lst (a6h op) 2, .bool (lay op).isSome]∧S'=S0) (.tup [.lst (a6h op) 2, .bool (lay op).isSome]) S:=b9.less hle b9.pure
 clear hS
 generalize hQ0:(fun d' S'=>d'=D.tup [.lst (a6h op) 2, .bool (lay op).isSome]∧S'=S0)=Q0 at hQ ⊢
 clear hQ0
 simp only[a7j,oD,cdB,beq_iff_eq,beq_eq_false_iff_ne,ne_eq]
 refine⟨fun h=> ?_,fun g1=>⟨fun h=> ?_,fun g2=>⟨fun h=> ?_,fun g3=> ?_⟩⟩⟩
 ·refine Y3.use ?_
  rw[a2N (b5V _),oD]
  refine a1T ?_
  rw[h]at hQ;exact hQ
 ·refine Y3.use ?_
  rw[a2N (b5V _),oD]
  refine a1T ?_
  rw[h]at hQ;exact hQ
 ·refine Y3.use ?_
  rw[a2N (b5V _),oD]
  refine a1T ?_
  rw[h]at hQ;exact hQ
 have e:lay op=b9A (op==6||op==7||op==8||op==50||op==36||op==39||op==40||op==41||op==42||op==43||op==44||op==45) op:=by unfold lay;rw[if_neg g1,if_neg g2,if_neg g3]
 rw[show a6h op=fR ((lay op).getD []) by unfold a6h;rw[if_neg g1,if_neg g2,if_neg g3],e]at hQ
 generalize hb:(op==6||op==7||op==8||op==50||op==36||op==39||op==40||op==41||op==42||op==43||op==44||op==45)=b at hQ
 have fin:∀c:Bool,c=b→o8 E w0 (b9 E Q0) (.int .u8 op) (.ptr k4 0) (.ptr k5 0) (.ptr k6 0) (.int .u8 op) (.bool c) S:=by
  rintro c rfl
  exact c6n h4 h5 h6 hQ
 refine⟨fun h=>fin _ (by rw[←hb];simp[h]),fun h1=>⟨fun h=>fin _ (by rw[←hb];simp[h]),fun h2=>⟨fun h=>fin _ (by rw[←hb];simp[h]),fun h3=>⟨fun h=>fin _ (by rw[←hb];simp[h]),fun h4=>⟨fun h=>fin _ (by rw[←hb];simp[h]),fun h5=>⟨fun h=>fin _ (by rw[←hb];simp[h]),fun h6=>
  ⟨fun h=>fin _ (by rw[←hb];simp[h]),fun h7=>⟨fun h=>fin _ (by rw[←hb];simp[h]),fun h8=>⟨fun h=>fin _ (by rw[←hb];simp[h]),fun h9=>⟨fun h=>fin _ (by rw[←hb];simp[h]),fun h10=>⟨fun h=>fin _ (by rw[←hb];simp[h]),fun h11=>fin _ (by rw[←hb];simp[h1,h2,h3,h4,h5,h6,h7,h8,h9,h10,h11])⟩⟩⟩⟩⟩⟩⟩⟩⟩⟩⟩
end
end
section
def b2D(fv:D)(lo hi:Int):Prop:=fv=W1 lo hi∨∃w,fv=a7d w∧lo=a0u w∧hi=a0s w
theorem b2D.bet(lo hi:Int):b2D (W1 lo hi) lo hi:= .inl rfl
theorem b2D.fit(w:Int):b2D (a7d w) (a0u w) (a0s w):= .inr ⟨w,rfl,rfl,rfl⟩
theorem b2D.cells{fv:D}{lo hi:Int}(h:b2D fv lo hi):s6 fv=some [fv]:=by
 rcases h with rfl|⟨w,rfl,_⟩<;>rfl
theorem c7J:a2M Try.prog L3=true:=by kernel_rfl
theorem c7X:a2M Try.prog a0a=true:=by kernel_rfl
def b8z(row:List D)(f:Fld):Prop:=∃fv,row=[.int .i64 (f.size:Int),fv]∧b2D fv f.lo f.hi
theorem c3b{op:Int}{i:Nat}{f:Fld}(h:((lay op).getD [])[i]? =some f):∃row,(a6h op)[i]? =some row∧b8z row f:=by
 unfold a6h
 by_cases h1:op=1
 ·have e:lay op=some [⟨1,a0u 1,a0s 1⟩]:=by unfold lay;rw[if_pos h1]
  rw[e]at h
  rw[if_pos h1]
  cases i with
  |zero=>cases h;exact⟨_,rfl,_,rfl, .fit 1⟩
  |succ i=>cases h
 rw[if_neg h1]
 by_cases h2:op=2
 ·have e:lay op=some [⟨4,a0u 2,a0s 2⟩]:=by unfold lay;rw[if_neg h1,if_pos h2]
  rw[e]at h
  rw[if_pos h2]
  cases i with
  |zero=>cases h;exact⟨_,rfl,_,rfl, .fit 2⟩
  |succ i=>cases h
 rw[if_neg h2]
 by_cases h3:op=3
 ·have e:lay op=some [⟨8,a0u 3,a0s 3⟩]:=by unfold lay;rw[if_neg h1,if_neg h2,if_pos h3]
  rw[e]at h
  rw[if_pos h3]
  cases i with
  |zero=>cases h;exact⟨_,rfl,_,rfl, .fit 3⟩
  |succ i=>cases h
 rw[if_neg h3]
 exact⟨_,by unfold fR;rw[List.getElem?_map,h];rfl,_,rfl, .bet _ _⟩
theorem b6O{op:Int}:(a6h op).length=((lay op).getD []).length:=by
 unfold a6h
 by_cases h1:op=1
 ·rw[if_pos h1];unfold lay;rw[if_pos h1];rfl
 rw[if_neg h1]
 by_cases h2:op=2
 ·rw[if_pos h2];unfold lay;rw[if_neg h1,if_pos h2];rfl
 rw[if_neg h2]
 by_cases h3:op=3
 ·rw[if_pos h3];unfold lay;rw[if_neg h1,if_neg h2,if_pos h3];rfl
 rw[if_neg h3,fR,List.length_map]
section
variable{E:d6}{w0:i5}{S0 S:b4}{t:D}{bs ms:List Int}
theorem b8H{fv:D}{lo hi n:Int}(h:b2D fv lo hi)(hn:I64 n){K:D→b4→Prop}(hK:K (.bool (decide (lo≤n∧n≤hi))) S):a5N Try.prog (r8 Try.prog E w0) S fv [.int .i64 n] K:=by
 rcases h with rfl|⟨w,rfl,rfl,rfl⟩
 ·simp only[W1,a5N,a8B,c7J,if_true]
  exact b0U.use hK
 ·simp only[a7d,a5N,a8B,c7X,if_true]
  exact(b5u hn).use hK
end
end
end Go.Proofs.Ytdkidgkiplcggaa.d
end
section
namespace Go.Am
section
def WkR:List (List D)→List (List D)→Prop
 | [],[]=>True
 |r::rs,q::qs=>(WkL r q∧r.length=q.length)∧WkR rs qs
 |_,_=>False
theorem WkR.length:∀ {rs qs:List (List D)},WkR rs qs→rs.length=qs.length
 | [],[],_=>rfl
 |r::rs,q::qs,h=>by rw[List.length_cons,List.length_cons,WkR.length h.2]
 | [],_::_,h=>h.elim
 |_::_,[],h=>h.elim
theorem WkR.row:∀ {rs qs:List (List D)} {sz:Nat},WkR rs qs→(∀r∈rs,r.length=sz)→∀q∈qs,q.length=sz
 | [],[],sz,_,_=>fun q hq=>by cases hq
 |r::rs,q::qs,sz,h,hr=>fun y hy=>by
  rcases List.mem_cons.1 hy with e|hy
  ·subst e;rw[←h.1.2];exact hr r List.mem_cons_self
  ·exact WkR.row h.2 (fun r hr'=>hr r (List.mem_cons_of_mem _ hr')) y hy
 | [],_::_,_,h,_=>h.elim
 |_::_,[],_,h,_=>h.elim
theorem WkR.ok{E:d6}{R:Fz}:∀ {rs qs:List (List D)} {vs:List AV},WkR rs qs→U7 E R rs vs→U7 E R qs vs
 | [],[],vs,_,h=>h
 |r::rs,q::qs,vs,w,h=>by
  simp only[U7]at h ⊢
  obtain⟨a,b,e,h1,h2⟩:=h
  exact⟨a,b,e,w.1.1.ok h1,WkR.ok w.2 h2⟩
 | [],_::_,_,w,_=>w.elim
 |_::_,[],_,w,_=>w.elim
theorem Wk.lst{rs qs:List (List D)}(w:WkR rs qs)(sz:Nat):Wk (.lst rs sz) (.lst qs sz):=fun E R v h=>by
 simp only[Rp]at h ⊢
 rcases h with ⟨rfl,rfl⟩|⟨o,j,cap,ex,z,e1,e2,e3,e4,e5⟩
 ·cases qs with
  |nil=>exact .inl ⟨rfl,rfl⟩
  |cons=>exact w.elim
 ·refine .inr ⟨o,j,cap,ex,z,by rw[←w.length];exact e1,e2,by rw[←w.length];exact e3,w.row e4, ?_⟩
  rcases e5 with rfl|⟨all,f1,f2,f3⟩
  ·cases qs with
   |nil=>exact .inl rfl
   |cons=>exact w.elim
  ·exact .inr ⟨all,f1,by rw[←w.length];exact w.ok f2,by rw[←w.length];exact f3⟩
theorem Wk.trans{a b c:D}(h:Wk a b)(h':Wk b c):Wk a c:=fun E R v x=>h' E R v (h E R v x)
theorem WkR.map{α:Type}{f g:α→List D}(h:∀a,WkL (f a) (g a)∧(f a).length=(g a).length):∀(l:List α),WkR (l.map f) (l.map g)
 | []=>trivial
 |a::l=>⟨h a,WkR.map h l⟩
inductive Lst (rows:List (List D)) (sz:Nat):D→Prop where
 |lst:Lst rows sz (.lst rows sz)
 |ext (more:List (List D)):Lst rows sz (.ext rows more sz)
section
variable{rows:List (List D)}{sz:Nat}{d:D}
theorem Lst.len(h:Lst rows sz d):m6 d=some (.int .i64 rows.length):=by cases h<;>rfl
theorem Lst.at(h:Lst rows sz d){i:Nat}{row:List D}(hr:rows[i]? =some row):j5 sz d (.int .i64 (i:Int))=some (.elt row 0):=by
 cases h
 ·exact b5t hr
 ·exact c7N hr
theorem Lst.rowsS(h:Lst rows sz d)(S:b4):Am.rowsS S sz d=some rows:=by
 cases h<;>simp[Am.rowsS,E0]
theorem Lst.cells(h:Lst rows sz d):s6 d=some [d]:=by cases h<;>rfl
end
theorem c4r{n cap:Nat}(h:n≤cap):A6 (.int .i64 (n:Int)) cap=some n:=by
 simp only[A6]
 rw[if_pos (by omega),Int.toNat_natCast]
theorem c7H{rows:List (List D)}{sz n:Nat}(h:n≤rows.length):N6 sz (.lst rows sz) none (some (.int .i64 (n:Int))) none=some (b7L (rows.take n) (rows.drop n) sz):=by
 simp only[N6,D8,b5r,a5l,b0Q,if_true,Option.bind_some,c4r h,Option.map_some,List.drop_zero,Nat.sub_zero]
 rw[List.take_of_length_le (l:=rows.drop n) (by rw[List.length_drop];omega)]
theorem c7Q{rows more:List (List D)}{sz n:Nat}(h:n≤(rows++more).length):N6 sz (.ext rows more sz) none (some (.int .i64 (n:Int))) none=some (b7L ((rows++more).take n) ((rows++more).drop n) sz):=by
 simp only[N6,D8,b5r,a5l,b0Q,if_true,Option.bind_some,c4r h,Option.map_some,List.drop_zero,Nat.sub_zero]
 rw[List.take_of_length_le (l:=(rows++more).drop n) (by rw[List.length_drop];omega)]
theorem Grw.upd{S0 S:b4}{t:D}{rows:List (List D)}{sz k:Nat}{o o':u7}(h:Grw S0 t rows sz S)(hk:S0 k=some o'):Grw (S0.set k o) t rows sz (S.set k o):=by
 rcases h with ⟨rfl,rfl,rfl⟩|⟨l,acs,h,rfl,rfl⟩
 ·exact .inl ⟨rfl,rfl,rfl⟩
 ·have hne:l≠k:=fun e=>by rw[e,hk]at h;cases h
  refine .inr ⟨l,acs, ?_,rfl,b4.set_comm _ hne _ _⟩
  rw[b4.set_ne _ _ _ hne];exact h
theorem Grw.last{S0 S:b4}{t:D}{rows:List (List D)}{sz bytes:Nat}(h:Grw S0 t rows sz S){v:D}{news:List (List D)}(hv:rowsS S sz v=some news)(hn:news≠[])(hb:0<bytes∧(2*(rows.length+news.length)+768)*bytes≤2^47){K:D→b4→Prop}
  (hK:K (.lst (rows++news) sz) S0):s0 S sz bytes t v K:=by
 simp only[s0,hv]
 rcases h with ⟨rfl,rfl,rfl⟩|⟨k,acs,h,rfl,rfl⟩
 ·simp only[V0]
  rw[if_neg hn]
  refine⟨⟨hb.1,by simpa using hb.2⟩, .inl ?_⟩
  rw[List.take_of_length_le (Nat.le_refl _)]
  simpa using hK
 ·simp only[V0]
  rw[if_neg hn,b4.set_same]
  simp only
  rw[if_pos ⟨by trivial,by trivial,by omega⟩]
  refine⟨hb, .inl ?_⟩
  rw[b4.erase_set _ _ _ h,List.take_of_length_le (by simp)]
  simpa using hK
end
section
theorem b4.set_self{S:b4}{k:Nat}{o:u7}(h:S k=some o):S.set k o=S:=by
 funext j;unfold b4.set
 by_cases e:j=k
 ·subst e;rw[if_pos rfl,h]
 ·rw[if_neg e]
theorem b4.ne_of{S:b4}{k l:Nat}{o:u7}(h:S k=some o)(n:S l=Option.none):k≠l:=fun e=>by rw[e,n]at h;cases h
theorem b4.none_of{S S':b4}(h:S.le S'){k:Nat}(hk:S' k=Option.none):S k=Option.none:=by
 cases e:S k with
 |none=>rfl
 |some o=>rw[h _ _ e]at hk;cases hk
def I1(S:b4)(k sz:Nat)(c:List D):Prop:=∃a,S k=some ⟨sz,[c],a⟩
section
variable{S S':b4}{k l sz sz':Nat}{c c':List D}
theorem I1.new{a:List AV}:I1 (S.set k ⟨sz,[c],a⟩) k sz c:=⟨a,b4.set_same _ _ _⟩
theorem I1.set_ne(h:I1 S k sz c){o:u7}(hn:k≠l):I1 (S.set l o) k sz c:=by
 obtain⟨a,h⟩:=h;exact⟨a,by rw[b4.set_ne _ _ _ hn];exact h⟩
theorem I1.none(h:I1 S k sz c)(hn:S l=Option.none):k≠l:=by
 obtain⟨a,h⟩:=h;exact b4.ne_of h hn
theorem I1.set(h:I1 S k sz c){o:u7}(hn:S l=Option.none):I1 (S.set l o) k sz c:=h.set_ne (h.none hn)
theorem I1.of(h:I1 S k sz c)(e:S' k=S k):I1 S' k sz c:=by
 obtain⟨a,h⟩:=h;exact⟨a,by rw[e];exact h⟩
theorem I1.le(h:I1 S k sz c)(hl:S.le S'):I1 S' k sz c:=by
 obtain⟨a,h⟩:=h;exact⟨a,hl _ _ h⟩
theorem I1.ne(h:I1 S k sz c)(h':I1 S l sz' c')(hs:sz≠sz'):k≠l:=fun e=>by
 obtain⟨a,h⟩:=h;obtain⟨b,h'⟩:=h';subst e;rw[h]at h';cases h';exact hs rfl
theorem I1.there(h:I1 S k sz c):S k≠Option.none:=by
 obtain⟨a,h⟩:=h;rw[h];simp
theorem I1.ld(h:I1 S k sz c)(i:Nat):c9 S (.ptr k i)=c[i]? :=by obtain⟨a,h⟩:=h;exact ldP h
theorem I1.la(h:I1 S k sz c){i n:Nat}(hn:0<n∧i+n≤c.length):s8 S n (.ptr k i)=some (.agg ((c.drop i).take n)):=by obtain⟨a,h⟩:=h;exact laP h hn
theorem I1.all(h:I1 S k sz c){n:Nat}(hn:0<n)(hl:n=c.length):s8 S n (.ptr k 0)=Option.some (.agg c):=by
 rw[h.la ⟨hn,by omega⟩,List.drop_zero,List.take_of_length_le (by omega)]
theorem I1.st(h:I1 S k sz c){i n:Nat}{v:D}{ds:List D}{K:D→b4→Prop}(hv:s6 v=Option.some ds)(hn:ds.length=n∧0<n∧i+n≤c.length)(hK:∀a,K a8 (S.set k ⟨sz,[o5 c i ds],a⟩)):j4 S n (.ptr k i) v K:=by
 obtain⟨a,h⟩:=h;exact stP h hv hn hK
end
def Z1(S0:b4)(av:List Nat)(t:D)(rows:List (List D))(sz:Nat)(S:b4):Prop:=
 (t= .nilSlc∧rows=[])∨∃k acs,S0 k=Option.none∧k ∉ av∧t= .raw k 0 rows.length rows.length false sz∧S k=some ⟨sz,rows,acs⟩
section
variable{S0 S:b4}{av:List Nat}{t:D}{rows:List (List D)}{sz:Nat}
theorem Z1.nil:Z1 S0 av .nilSlc [] sz S:= .inl ⟨rfl,rfl⟩
theorem Z1.of(h:Z1 S0 av t rows sz S){S':b4}(e:∀k o,k ∉ av→S k=some o→S' k=some o):Z1 S0 av t rows sz S':=by
 rcases h with h|⟨k,acs,h0,h1,h2,h3⟩
 ·exact .inl h
 ·exact .inr ⟨k,acs,h0,h1,h2,e _ _ h1 h3⟩
theorem Z1.set(h:Z1 S0 av t rows sz S){l:Nat}{o:u7}(hl:l∈av∨S l=Option.none):Z1 S0 av t rows sz (S.set l o):=h.of fun k o' hk e=>by
 rw[b4.set_ne]
 ·exact e
 ·rintro rfl
  rcases hl with hl|hl
  ·exact hk hl
  ·rw[hl]at e;cases e
theorem Z1.le(h:Z1 S0 av t rows sz S){S':b4}(hl:S.le S'):Z1 S0 av t rows sz S':=h.of fun k o _ e=>hl _ _ e
theorem Z1.push(h:Z1 S0 av t rows sz S)(hle:S0.le S)(hav:∀j∈av,S j≠Option.none){bytes:Nat}{v:D}{news:List (List D)}(hv:rowsS S sz v=some news)(hn:news≠[])(hb:0<bytes∧(2*(rows.length+news.length)+768)*bytes≤2^47){K:D→b4→Prop}
  (hK:∀t' S',S0.le S'→(∀j∈av,S' j=S j)→Z1 S0 av t' (rows++news) sz S'→K t' S'):s0 S sz bytes t v K:=by
 simp only[s0,hv]
 rcases h with ⟨rfl,rfl⟩|⟨k,acs,h0,h1,rfl,h3⟩
 ·simp only[V0]
  rw[if_neg hn]
  refine⟨⟨hb.1,by simpa using hb.2⟩, .inr fun k acs hk=>hK _ _ (b4.le_set hle (b4.none_of hle hk)) (fun j hj=>b4.set_ne _ _ _ fun e=>hav j hj (by rw[e];exact hk)) (.inr ⟨k,acs,b4.none_of hle hk,fun hm=>hav k hm hk,by simp,by simpa using b4.set_same _ _ _⟩)⟩
 ·simp only[V0]
  rw[if_neg hn,h3]
  simp only
  rw[if_pos ⟨by trivial,by trivial,by omega⟩]
  have hke:∀j∈av,(S.erase k) j=S j:=fun j hj=>b4.erase_ne _ _ fun e=>h1 (e▸hj)
  refine⟨hb, .inr fun k' acs' hk'=> ?_⟩
  have hle':=b4.le_erase hle h0
  refine hK _ _ (b4.le_set hle' (b4.none_of hle' hk')) (fun j hj=> ?_) (.inr ⟨k',acs',b4.none_of hle' hk',fun hm=>hav k' hm (by rw[←hke k' hm];exact hk'),by simp, ?_⟩)
  ·rw[b4.set_ne,hke j hj]
   rintro rfl
   exact hav j hj (by rw[←hke j hj];exact hk')
  ·rw[b4.set_same];simp
theorem Z1.grw(h:Z1 S0 av t rows sz S)(hle:S0.le S):∃S',S'.le S∧Grw S0 t rows sz S':=by
 rcases h with ⟨rfl,rfl⟩|⟨k,acs,h0,h1,rfl,h3⟩
 ·exact⟨S0,hle, .inl ⟨rfl,rfl,rfl⟩⟩
 ·refine⟨S0.set k ⟨sz,rows,acs⟩,fun j o e=> ?_, .inr ⟨k,acs,h0,rfl,rfl⟩⟩
  unfold b4.set at e
  split at e
  ·rename_i hj;subst hj;cases e;exact h3
  ·exact hle _ _ e
theorem Z1.len(h:Z1 S0 av t rows sz S):m6 t=some (.int .i64 rows.length):=by
 rcases h with ⟨rfl,rfl⟩|⟨k,acs,_,_,rfl,_⟩<;>rfl
theorem Z1.cells(h:Z1 S0 av t rows sz S):s6 t=some [t]:=by
 rcases h with ⟨rfl,rfl⟩|⟨k,acs,_,_,rfl,_⟩<;>rfl
end
theorem r8.fin{P:Program}{E:d6}{w0:i5}{f:FuncId}{ds:List D}{S:b4}{Q Q':D→b4→Prop}(h:r8 P E w0 f ds S Q)(hq:∀d S',Q d S'→b9 E Q' d S'):r8 P E w0 f ds S Q':=fun R H avs hF hC ha=>by
 refine b4n _ _ _ _ _ (h R H avs hF hC ha) fun v H' ⟨F',R',S',d,a,b,c,e⟩=> ?_
 obtain⟨R2,S2,d2,a2,b2,c2,e2⟩:=hq _ _ e R' H' v b c
 exact⟨F',R2,S2,d2,Fz.le_trans a a2,b2,c2,e2⟩
end
end Go.Am
end
section
open Go.Proofs Go Go.Am Go.Op
namespace Go.Proofs.Ytdkidgkiplcggaa.d
section
def a0L(y:Int×Int):List D:=[.int .i64 y.1, .int .i64 y.2]
def b4v(arms:List (Int×Int)):D:= .lst (arms.map a0L) 2
def inC(y:In):List D:=[.int .u8 y.op, .int .i64 y.a, .int .i64 y.b,b4v y.arms]
def inD(y:In):D:= .agg (inC y)
section
variable{E:d6}{w0:i5}{S0 S:b4}{t:D}{bs ms:List Int}
@[simp] theorem c3S(arms:List (Int×Int)):m6 (b4v arms)=some (.int .i64 arms.length):=by simp[b4v]
theorem c4h{arms:List (Int×Int)}{i:Nat}{y:Int×Int}(h:arms[i]? =some y):j5 2 (b4v arms) (.int .i64 (i:Int))=some (.elt (a0L y) 0):=b5t (by rw[List.getElem?_map,h];rfl)
end
end
section
theorem b8z.load{row:List D}{f:Fld}(h:b8z row f):row.length=2:=by obtain⟨fv,rfl,_⟩:=h;rfl
section
variable{E:d6}{w0:i5}{S0 S:b4}{t:D}{bs:List Int}{y:In}
end
end
section
@[simp] theorem c8m(row:List D)(rows:List (List D))(sz:Nat):j5 sz (.lst (row::rows) sz) (.int .i64 0)=some (.elt row 0):=b5t (i:=0) rfl
@[simp] theorem c8y(a row:List D)(rows:List (List D))(sz:Nat):j5 sz (.lst (a::row::rows) sz) (.int .i64 1)=some (.elt row 0):=b5t (i:=1) rfl
theorem c6S(a b:Int):(a==b)=decide (a=b):=by by_cases h:a=b<;>simp[h]
end
end Go.Proofs.Ytdkidgkiplcggaa.d
end
section
open Go.Proofs Go Go.Am
namespace Go.Proofs.Ytdkidgkiplcggaa.d
def a1A:List (Nat×List Nat):=[(8,[0,1,5])]
def a1z:List (Nat×List Nat):=[]
def a1y:List (Nat×Arr):=[]
noncomputable def a0x:Code:=(f0 [1,1,0,1,0,0] (Try.f19.body.getD .skip))
def a0A(E:d6)(w0:i5)(Q:D→b4→Prop):j2→List D→b4→Prop:=
 (i4 0 (J0 Try.prog E w0 a1A a1z a1y (f0 [1,1,1] (Try.f19.body.getD .skip)) (E3 Try.prog Try.f19 Q)))
def U2(E:d6)(w0:i5)(N0:D→D→D→b4→Prop)(Q:D→b4→Prop)(x0 x1 x5:D)(S:b4):Prop:=
 b5 (m6 x0) fun v3=>
 b5 (d4 .lss x5 v3) fun v4=>
 g8 v4
 (b5 (j5 1 x0 x5) fun v5=>
 b5 (c9 S v5) fun v6=>
 b5 (j5 1 x1 x5) fun v7=>
 b5 (c9 S v7) fun v8=>
 b5 (d4 .neq v6 v8) fun v9=>
 g8 v9
 (Q (.bool false) S)
 (b5 (d4 .add x5 (.int .i64 1)) fun v10=>
 N0 x0 x1 v10 S))
 (Q (.bool true) S)
theorem a7i{E:d6}{w0:i5}{N0:D→D→D→b4→Prop}{Q:D→b4→Prop}{x0 x1 x5:D}{S:b4}(h:U2 E w0 N0 Q x0 x1 x5 S):
  b8 Try.prog E w0 a0x (d8 26 [0,1,5] [x0,x1,x5]) S (m9 (fun T S=>N0 (T.getD 0 a8) (T.getD 1 a8) (T.getD 5 a8) S) (a0A E w0 Q)):=d5 a1A a1z a1y mixed (by kernel_rfl) h
theorem a1I{E:d6}{w0:i5}{Q:D→b4→Prop}(I:Nat→D→D→D→b4→Prop)
  (step:∀n x0 x1 x5 S,I n x0 x1 x5 S→U2 E w0 (fun x0 x1 x5 S=>∃m,m<n∧I m x0 x1 x5 S) Q x0 x1 x5 S)
  {n:Nat} {x0 x1 x5:D} {S:b4} (h:I n x0 x1 x5 S):b8 Try.prog E w0 (.loop a0x) (d8 26 [0,1,5] [x0,x1,x5]) S (a0A E w0 Q):=
 j7 (k:=26) (n:=n) (I:=fun n T S=>I n (T.getD 0 a8) (T.getD 1 a8) (T.getD 5 a8) S) (fun n T S hl hI=>l9 [0,1,5] hl (b8.mono (a7i (step n _ _ _ S hI)) fun ex T' S' _ hq=>by cases ex<;>exact hq)) (f9 ..) (Eq.mp (by kernel_rfl) h)
def a2G(E:d6)(w0:i5)(Q:D→b4→Prop)(a0 a1:D)(S:b4):Prop:=
 b5 (m6 a0) fun v0=>
 b5 (m6 a1) fun v1=>
 b5 (d4 .neq v0 v1) fun v2=>
 g8 v2
 (Q (.bool false) S)
 (b8 Try.prog E w0 (.loop a0x) (d8 26 [0,1,5] [a0,a1,(.int .i64 0)]) S (a0A E w0 Q))
theorem a3h{E:d6}{w0:i5}{Q:D→b4→Prop}{a0 a1:D}{S:b4}(h:a2G E w0 (b9 E Q) a0 a1 S):r8 Try.prog E w0 A1 [a0,a1] S Q:=
 o6 a1A a1z a1y (fn:=Try.f19) (c:=Try.f19.body.getD .skip) mixed Try.func19 (by kernel_rfl) (by kernel_rfl) h
def a1n:List (Nat×List Nat):=[(8,[0,3,4])]
def a1w:List (Nat×List Nat):=[]
def a1l:List (Nat×Arr):=[]
noncomputable def a0N:Code:=(f0 [1,1,1,0,1,0,0] (Try.f17.body.getD .skip))
def a0P(E:d6)(w0:i5)(Q:D→b4→Prop):j2→List D→b4→Prop:=
 (i4 0 (J0 Try.prog E w0 a1n a1w a1l (f0 [1,1,1,1] (Try.f17.body.getD .skip)) (E3 Try.prog Try.f17 Q)))
def a0z(E:d6)(w0:i5)(N0:D→D→D→b4→Prop)(Q:D→b4→Prop)(x0 x3 x4:D)(S:b4):Prop:=
 b5 (d4 .lss x4 (.int .i64 3)) fun v2=>
 g8 v2
 (b5 (d4 .sub (.int .i64 (-771)) x4) fun v3=>
 I4 S 1 (s4 1 (List.replicate 1 [(.int .i64 0)]) [(0,v3)]) 1 fun v4 S5=>
 s0 S5 1 8 x3 v4 fun v6 S7=>
 b5 (d4 .add x4 (.int .i64 1)) fun v8=>
 N0 x0 v6 v8 S7)
 (b5 (m6 x0) fun v9=>
 b5 (N6 1 x3 none (some v9) none) fun v10=>
 Q v10 S)
theorem a7v{E:d6}{w0:i5}{N0:D→D→D→b4→Prop}{Q:D→b4→Prop}{x0 x3 x4:D}{S:b4}(h:a0z E w0 N0 Q x0 x3 x4 S):
  b8 Try.prog E w0 a0N (d8 21 [0,3,4] [x0,x3,x4]) S (m9 (fun T S=>N0 (T.getD 0 a8) (T.getD 3 a8) (T.getD 4 a8) S) (a0P E w0 Q)):=d5 a1n a1w a1l mixed (by kernel_rfl) h
theorem a7p{E:d6}{w0:i5}{Q:D→b4→Prop}(I:Nat→D→D→D→b4→Prop)
  (step:∀n x0 x3 x4 S,I n x0 x3 x4 S→a0z E w0 (fun x0 x3 x4 S=>∃m,m<n∧I m x0 x3 x4 S) Q x0 x3 x4 S)
  {n:Nat} {x0 x3 x4:D} {S:b4} (h:I n x0 x3 x4 S):b8 Try.prog E w0 (.loop a0N) (d8 21 [0,3,4] [x0,x3,x4]) S (a0P E w0 Q):=
 j7 (k:=21) (n:=n) (I:=fun n T S=>I n (T.getD 0 a8) (T.getD 3 a8) (T.getD 4 a8) S) (fun n T S hl hI=>l9 [0,3,4] hl (b8.mono (a7v (step n _ _ _ S hI)) fun ex T' S' _ hq=>by cases ex<;>exact hq)) (f9 ..) (Eq.mp (by kernel_rfl) h)
def a5Y(E:d6)(w0:i5)(Q:D→b4→Prop)(a0:D)(S:b4):Prop:=
 s0 S 1 8 .nilSlc a0 fun v0 S1=>
 b8 Try.prog E w0 (.loop a0N) (d8 21 [0,3,4] [a0,v0,(.int .i64 0)]) S1 (a0P E w0 Q)
theorem a9N{E:d6}{w0:i5}{Q:D→b4→Prop}{a0:D}{S:b4}(h:a5Y E w0 (b9 E Q) a0 S):r8 Try.prog E w0 a0i [a0] S Q:=
 o6 a1n a1w a1l (fn:=Try.f17) (c:=Try.f17.body.getD .skip) mixed Try.func17 (by kernel_rfl) (by kernel_rfl) h
def a1t:List (Nat×List Nat):=[(10,[1,5,6])]
def a1x:List (Nat×List Nat):=[]
def a1E:List (Nat×Arr):=[]
noncomputable def a0G:Code:=(f0 [1,1,1,0,1,0,0] (Try.f21.body.getD .skip))
def a0I(E:d6)(w0:i5)(Q:D→b4→Prop):j2→List D→b4→Prop:=
 (i4 0 (J0 Try.prog E w0 a1t a1x a1E (f0 [1,1,1,1] (Try.f21.body.getD .skip)) (E3 Try.prog Try.f21 Q)))
def a0y(E:d6)(w0:i5)(N0:D→D→D→b4→Prop)(Q:D→b4→Prop)(x1 x5 x6:D)(S:b4):Prop:=
 b5 (d4 .lss x6 (.int .i64 3)) fun v6=>
 g8 v6
 (b5 (m6 x1) fun v7=>
 b5 (d4 .add v7 x6) fun v8=>
 b5 (j5 1 x5 v8) fun v9=>
 b5 (c9 S v9) fun v10=>
 b5 (d4 .sub (.int .i64 (-771)) x6) fun v11=>
 b5 (d4 .neq v10 v11) fun v12=>
 g8 v12
 (Q (.bool false) S)
 (b5 (d4 .add x6 (.int .i64 1)) fun v13=>
 N0 x1 x5 v13 S))
 (Q (.bool true) S)
theorem a7e{E:d6}{w0:i5}{N0:D→D→D→b4→Prop}{Q:D→b4→Prop}{x1 x5 x6:D}{S:b4}(h:a0y E w0 N0 Q x1 x5 x6 S):
  b8 Try.prog E w0 a0G (d8 30 [1,5,6] [x1,x5,x6]) S (m9 (fun T S=>N0 (T.getD 1 a8) (T.getD 5 a8) (T.getD 6 a8) S) (a0I E w0 Q)):=d5 a1t a1x a1E mixed (by kernel_rfl) h
theorem a7t{E:d6}{w0:i5}{Q:D→b4→Prop}(I:Nat→D→D→D→b4→Prop)
  (step:∀n x1 x5 x6 S,I n x1 x5 x6 S→a0y E w0 (fun x1 x5 x6 S=>∃m,m<n∧I m x1 x5 x6 S) Q x1 x5 x6 S)
  {n:Nat} {x1 x5 x6:D} {S:b4} (h:I n x1 x5 x6 S):b8 Try.prog E w0 (.loop a0G) (d8 30 [1,5,6] [x1,x5,x6]) S (a0I E w0 Q):=
 j7 (k:=30) (n:=n) (I:=fun n T S=>I n (T.getD 1 a8) (T.getD 5 a8) (T.getD 6 a8) S) (fun n T S hl hI=>l9 [1,5,6] hl (b8.mono (a7e (step n _ _ _ S hI)) fun ex T' S' _ hq=>by cases ex<;>exact hq)) (f9 ..) (Eq.mp (by kernel_rfl) h)
def a6f(E:d6)(w0:i5)(Q:D→b4→Prop)(a0 a1:D)(S:b4):Prop:=
 r8 Try.prog E w0 A1 [a0,a1] S fun v0 S1=>
 b5 (unD .not v0) fun v2=>
 g8 v2
 (Q (.bool false) S1)
 (b5 (m6 a1) fun v3=>
 b5 (d4 .add v3 (.int .i64 3)) fun v4=>
 b5 (N6 1 a0 none (some v4) none) fun v5=>
 b8 Try.prog E w0 (.loop a0G) (d8 30 [1,5,6] [a1,v5,(.int .i64 0)]) S1 (a0I E w0 Q))
theorem a9V{E:d6}{w0:i5}{Q:D→b4→Prop}{a0 a1:D}{S:b4}(h:a6f E w0 (b9 E Q) a0 a1 S):r8 Try.prog E w0 a0b [a0,a1] S Q:=
 o6 a1t a1x a1E (fn:=Try.f21) (c:=Try.f21.body.getD .skip) mixed Try.func21 (by kernel_rfl) (by kernel_rfl) h
end Go.Proofs.Ytdkidgkiplcggaa.d
end
