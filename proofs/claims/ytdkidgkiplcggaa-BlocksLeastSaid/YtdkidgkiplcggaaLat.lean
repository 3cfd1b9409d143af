/-
  BlocksLeastSaid: part Lat of its proof.
-/
import Derived.Test.YtdkidgkiplcggaaLar
import Derived.Test.YtdkidgkiplcggaaLas
import Derived.Test.YtdkidgkiplcggaaRows
import Derived.KernelRfl
set_option linter.unusedVariables false
set_option linter.unusedSimpArgs false
set_option maxRecDepth 100000
section
open Go.Proofs Go Go.Am Go.Op
namespace Go.Proofs.Ytdkidgkiplcggaa.d
section
section
variable{E:d6}{w0:i9}
theorem b4l{w:Int}:a1c Try.prog E w0 a4n [.int .u8 w] (.int .i64 (b6Y w)):=fun S=>by
 refine b1c ?_
 unfold a9J b6Y
 simp only[a4l,oD,cdB,beq_iff_eq,beq_eq_false_iff_ne,ne_eq]
 refine⟨fun h=> ?_,fun h1=>⟨fun h=> ?_,fun h2=>⟨fun h=> ?_,fun h3=> ?_⟩⟩⟩<;>simp only[*,if_true,if_false]<;>exact b9.pure
theorem b5r{w n:Int}:a1c Try.prog E w0 a5l [.int .u8 w, .int .i64 n] (.int .i64 (b3D w n)):=fun S=>by
 refine b2m ?_
 unfold a9G b3D
 simp only[a4l,oD,cdB,beq_iff_eq,beq_eq_false_iff_ne,ne_eq,cvI]
 refine⟨fun h=> ?_,fun h1=>⟨fun h=> ?_,fun h2=>⟨fun h=> ?_,fun h3=> ?_⟩⟩⟩<;>simp only[*,if_true,if_false]<;>exact b9.pure
theorem c1S(n:Int):IntKind.i8.wrap n=if 128≤n % 256 then n % 256 - 256 else n % 256:=by
 simp only[IntKind.wrap,IntKind.bits,IntKind.signed];simp
theorem c0M(n:Int):IntKind.i32.wrap n=if 2147483648≤n % 4294967296 then n % 4294967296 - 4294967296 else n % 4294967296:=by
 simp only[IntKind.wrap,IntKind.bits,IntKind.signed];simp
theorem c0w{w n:Int}(hn:I64 n):(0<b6Y w∧b3D w n=n)↔(Y8 w≤n∧n≤Z1 w):=by
 obtain⟨h0,h1⟩:=hn
 unfold b6Y b3D Y8 Z1
 by_cases w1:w=1
 ·simp only[if_pos w1]
  rw[c1S,j1 (by split<;>omega) (by split<;>omega)]
  split<;>constructor<;>omega
 simp only[if_neg w1]
 by_cases w2:w=2
 ·simp only[if_pos w2]
  rw[c0M,j1 (by split<;>omega) (by split<;>omega)]
  split<;>constructor<;>omega
 simp only[if_neg w2]
 by_cases w3:w=3
 ·simp only[if_pos w3];exact⟨fun _=>⟨h0,h1⟩,fun _=>⟨by decide,by trivial⟩⟩
 simp only[if_neg w3];constructor<;>omega
theorem b5D{w n:Int}(hn:I64 n):a1c Try.prog E w0 a4U [.int .u8 w, .int .i64 n] (.bool (decide (Y8 w≤n∧n≤Z1 w))):=fun S=>by
 refine b1D ?_
 unfold b0a
 refine b4l.use ?_
 have hi:=c0w (w:=w) hn
 by_cases hb:b6Y w>0
 ·simp[hb]
  refine b5r.use ?_
  have e:(b3D w n==n)=decide (Y8 w≤n∧n≤Z1 w):=by
   by_cases hw:b3D w n=n
   ·rw[decide_eq_true (hi.1 ⟨hb,hw⟩),hw];simp
   ·rw[decide_eq_false (fun h=>hw (hi.2 h).2)];simpa using hw
  simp[e]
  exact b9.pure
 ·have e:decide (Y8 w≤n∧n≤Z1 w)=false:=decide_eq_false fun h=>hb (hi.2 h).1
  rw[e]
  simp[hb]
  exact b9.pure
def V2(lo hi:Int):D:= .fn (.func K8) [] [.elt [.int .i64 lo] 0, .elt [.int .i64 hi] 0]
def a6a(w:Int):D:= .fn (.func Y2) [] [.elt [.int .u8 w] 0]
theorem B1{lo hi:Int}:a1c Try.prog E w0 j9 [.int .i64 lo, .int .i64 hi] (V2 lo hi):=fun S=>by
 refine a8X ?_
 unfold a6r
 simp only[clI,oD]
 intro k acs hk k2 acs2 hk2
 obtain⟨hne,hk20⟩:=b4.fresh hk2
 refine b9.frz hk2 (b9.frz hk ?_)
 simp only[Am.frz,X4,if_true,if_neg hne,if_neg (Ne.symm hne)]
 exact b9.pure
theorem X2{w:Int}:a1c Try.prog E w0 w9 [.int .u8 w] (a6a w):=fun S=>by
 refine b2X ?_
 unfold b0Y
 simp only[clI,oD]
 intro k acs hk
 refine b9.frz hk ?_
 simp only[Am.frz,X4,if_true]
 exact b9.pure
theorem a8U{lo hi n:Int}:a1c Try.prog E w0 K8 [.int .i64 n, .elt [.int .i64 lo] 0, .elt [.int .i64 hi] 0] (.bool (decide (lo≤n∧n≤hi))):=fun S=>by
 refine a6V ?_
 unfold a3X
 by_cases h:lo≤n<;>simp[h]<;>exact b9.pure
theorem b3e{w n:Int}(hn:I64 n):a1c Try.prog E w0 Y2 [.int .i64 n, .elt [.int .u8 w] 0] (.bool (decide (Y8 w≤n∧n≤Z1 w))):=fun S=>by
 refine b0n ?_
 unfold a8t
 simp only[lsE,List.getElem?_cons_zero,oD]
 exact(b5D hn).use b9.pure
end
end
section
def bD(bs:List Int):D:= .lst (a1b (bs.map (D.int .u8))) 1
theorem c1b{bs:List Int}{i:Nat}{b:Int}(h:bs[i]? =some b):l7 1 (bD bs) (.int .i64 (i:Int))=some (.elt [.int .u8 b] 0):=
 b4B (b6B (by rw[List.getElem?_map,h];rfl))
@[simp] theorem a9j(bs:List Int):m8 (bD bs)=some (.int .i64 bs.length):=by simp[bD]
@[simp] theorem c5f(S:b4)(bs:List Int):rowsS S 1 (bD bs)=some (a1b (bs.map (D.int .u8))):=by simp[bD,rowsS,F4]
theorem b4t{a:Nat}(h:a<2^64):IntKind.u64.wrap (a:Int)=a:=by rw[c1B];omega
theorem b0d{w a:Nat}:(BitVec.ofInt w (a:Int)).toNat=a % 2^w:=by simp
theorem c3I{a b:Nat}(ha:a<2^64)(hb:b<2^64):d4 .or (.int .u64 (a:Int)) (.int .u64 (b:Int))=some (.int .u64 ((a ||| b:Nat):Int)):=by
 rw[c5z]
 show some (D.int .u64 (IntKind.u64.wrap ((BitVec.ofInt 64 (a:Int) ||| BitVec.ofInt 64 (b:Int)).toNat:Int)))=_
 rw[BitVec.toNat_or,b0d,b0d,Nat.mod_eq_of_lt ha,Nat.mod_eq_of_lt hb,b4t (Nat.or_lt_two_pow ha hb)]
theorem c2l{a i:Nat}(hi:i≤64)(h:a*2^i<2^64):d4 .shl (.int .u64 (a:Int)) (.int .i64 (i:Int))=some (.int .u64 ((a*2^i:Nat):Int)):=by
 rw[c2N _ _ _ _ (by omega),Int.toNat_natCast,show IntKind.u64.bits=64 from rfl,Nat.min_eq_left hi]
 have e:(a:Int)*2^i=((a*2^i:Nat):Int):=by simp
 rw[e,b4t h]
theorem c3G{a b i:Nat}(h:a<2^i):a ||| (b*2^i)=a+b*2^i:=by
 have:=Nat.two_pow_add_eq_or_of_lt h b
 rw[Nat.or_comm,Nat.mul_comm b, ←this,Nat.add_comm]
section
variable{E:d6}{w0:i9}
theorem b5h{bs:List Int}(hb:∀b∈bs,V5 b)(hl:bs.length<2^60){p s:Nat}(hp:p≤bs.length)(h1:1≤s)(h8:s≤8):a1c Try.prog E w0 a5f [bD bs, .int .i64 (p:Int), .int .i64 (s:Int)]
  (if bs.length<p+s then .tup [.int .u64 0, .int .i64 0, .int .i64 10]else .tup [.int .u64 (leN ((bs.drop p).take s):Nat), .int .i64 ((p+s:Nat):Int), .int .i64 0]):=fun S=>by
 refine b1W ?_
 unfold a9N
 have c1:decide ((s:Int)<1)=false:=decide_eq_false (by omega)
 have c2:decide ((s:Int)>8)=false:=decide_eq_false (by omega)
 have c3:decide ((p:Int)<0)=false:=decide_eq_false (by omega)
 have c4:decide ((p:Int)>bs.length)=false:=decide_eq_false (by omega)
 simp only[a0U,a9u,oD,c1,c2,c3,cdF,a9j,c4]
 unfold U5
 simp only[cdF,a9j,oD,a6l,a9u]
 rw[j1 (by omega) (by omega),cdI]
 refine⟨fun hs=> ?_,fun hs=> ?_⟩
 ·rw[if_pos (by omega)];exact b9.pure
 rw[if_neg (by omega)]
 refine a8J (I:=fun n x0 x1 x2 x9 x29 x30 S'=>S'=S∧x0=bD bs∧x1= .int .i64 (p:Int)∧x2= .int .i64 (s:Int)∧x29= .int .i64 (s:Int)∧∃i:Nat,x30= .int .i64 (i:Int)∧i+n=s∧x9= .int .u64 ((leN ((bs.drop p).take i):Nat):Int)) ?_ (n:=s)
  ⟨rfl,rfl,rfl,rfl,rfl,0,rfl,by omega,rfl⟩
 rintro n _ _ _ _ _ _ _ ⟨rfl,rfl,rfl,rfl,rfl,i,rfl,hi,rfl⟩
 unfold a2K
 rw[a0U,oD,cdI]
 refine⟨fun hlt=> ?_,fun hge=> ?_⟩
 ·have hlt2:p+i<bs.length:=by omega
  obtain⟨y,hy⟩:∃y,y=bs[p+i]:=⟨_,rfl⟩
  have hj:bs[p+i]? =some y:=by rw[List.getElem?_eq_getElem hlt2,hy]
  obtain⟨b0,b1⟩:=hb y (by rw[hy];exact List.getElem_mem _)
  obtain⟨xn,hxn⟩:∃xn:Nat,y=(xn:Int):=⟨y.toNat,by omega⟩
  have hbs:∀b∈(bs.drop p).take i,V5 b:=fun b hb'=>hb b (List.mem_of_mem_drop (List.mem_of_mem_take hb'))
  have hlen:((bs.drop p).take i).length=i:=by rw[List.length_take,List.length_drop];omega
  have e3:=b2u hbs
  rw[hlen]at e3
  have htk:(bs.drop p).take (i+1)=(bs.drop p).take i++[y]:=by
   rw[List.take_add_one,List.getElem?_drop,hj];rfl
  have hsn:=b6M ((bs.drop p).take i) y
  rw[←htk,hlen]at hsn
  have e4:=b2u (l:=(bs.drop p).take (i+1)) fun b hb'=>hb b (List.mem_of_mem_drop (List.mem_of_mem_take hb'))
  rw[show((bs.drop p).take (i+1)).length=i+1 by rw[List.length_take,List.length_drop];omega]at e4
  have h3:2^(8*(i+1))≤2^64:=Nat.pow_le_pow_right (by decide) (by omega)
  have h4:2^(8*i)≤2^64:=Nat.pow_le_pow_right (by decide) (by omega)
  have hxt:y.toNat=xn:=by omega
  rw[hxt]at hsn
  rw[D7,oD,j1 (by omega) (by omega),show(p:Int)+(i:Int)=((p+i:Nat):Int) by omega,c1b hj,oD,lsE,List.getElem?_cons_zero,oD,cvI,oD,hxn,b4t (by omega),c2Z,oD,j1 (by omega) (by omega),
   show 8*(i:Int)=((8*i:Nat):Int) by omega,c2l (by omega) (by omega),oD,c3I (by omega) (by omega),oD,c3G e3,D7,oD,j1 (by omega) (by omega)]
  exact⟨n - 1,by omega,rfl,rfl,rfl,rfl,rfl,i+1,by simp,by omega,by simp only[hsn]⟩
 ·obtain rfl:i=s:=by omega
  rw[D7,oD,j1 (by omega) (by omega),show(p:Int)+(i:Int)=((p+i:Nat):Int) by omega]
  exact b9.pure
end
end
end Go.Proofs.Ytdkidgkiplcggaa.d
end
section
open Go.Proofs Go Go.Am
namespace Go.Proofs.Ytdkidgkiplcggaa.d
def C0:List (Nat×List Nat):=[]
def C2:List (Nat×List Nat):=[(89,[0,4,5,6,13,29]),(101,[0,4,5,6,13,44]),(113,[0,5,6,13,50]),(137,[0,5,6,13,61])]
def C1:List (Nat×Arr):=[]
noncomputable def a8y:Code:=(i6 [1,1,1,0,1,0,1,1,1,1,1,1,1,1,1,1,1,1,1,1,1] (Try.f60.body.getD .skip))
def a7T(E:d6)(w0:i9)(Q:D→b4→Prop):j5→List D→b4→Prop:=
 (q9 0 (W1 Try.prog E w0 C0 C2 C1 (i6 [1,1,1,1] (Try.f60.body.getD .skip)) (K3 Try.prog Try.f60 Q)))
def a2Y(E:d6)(w0:i9)(Q:D→b4→Prop)(x0 x5 x6 x13 x61:D)(S:b4):Prop:=
 f0 x61
 (a8 (s4 S 2 x5) fun v56=>
 L2 S 2 (y9 2 (List.replicate 1 [(.int .i64 0), .nilFn]) [(0,v56)]) 1 fun v57 S58=>
 Q (.tup [v57,(.bool true)]) S58)
 (a8 (d4 .eql x13 (.int .u8 52)) fun v59=>
 f0 v59
 (s5 Try.prog E w0 j9 [(.int .i64 0),(.int .i64 255)] S fun v60 S61=>
 a8 (C9 (r9 [(.int .i64 0), .nilFn] [(0,1,(.int .i64 1)),(1,1,v60)])) fun v62=>
 L2 S61 2 (y9 2 (List.replicate 1 [(.int .i64 0), .nilFn]) [(0,v62)]) 1 fun v63 S64=>
 Q (.tup [v63,(.bool true)]) S64)
 (a8 (d4 .eql x13 (.int .u8 49)) fun v65=>
 f0 v65
 (a8 (s4 S 2 x6) fun v66=>
 L2 S 2 (y9 2 (List.replicate 1 [(.int .i64 0), .nilFn]) [(0,v66)]) 1 fun v67 S68=>
 Q (.tup [v67,(.bool true)]) S68)
 (a8 (d4 .geq x0 (.int .u8 11)) fun v69=>
 a8 (d5 (b7 v69 true) (some x0)) fun v70=>
 a8 (d5 (b7 v69 true) (d4 .leq v70 (.int .u8 28))) fun v71=>
 a8 (H9 v69 v71 (.bool false)) fun v72=>
 f0 v72
 (a8 (s4 S 2 x6) fun v73=>
 L2 S 2 (y9 2 (List.replicate 1 [(.int .i64 0), .nilFn]) [(0,v73)]) 1 fun v74 S75=>
 Q (.tup [v74,(.bool true)]) S75)
 (a8 (d4 .geq x0 (.int .u8 1)) fun v76=>
 a8 (d5 (b7 v76 true) (some x0)) fun v77=>
 a8 (d5 (b7 v76 true) (d4 .leq v77 (.int .u8 52))) fun v78=>
 a8 (H9 v76 v78 (.bool false)) fun v79=>
 Q (.tup [.nilSlc,v79]) S))))
def I0(E:d6)(w0:i9)(Q:D→b4→Prop)(x0 x5 x6 x13 x61:D)(S:b4):Prop:=c9 Try.prog E w0 a8y (d8 90 [0,5,6,13,61] [x0,x5,x6,x13,x61]) S (a7T E w0 Q)
theorem a6c{E:d6}{w0:i9}{Q:D→b4→Prop}{x0 x5 x6 x13 x61:D}{S:b4}(h:a2Y E w0 Q x0 x5 x6 x13 x61 S):I0 E w0 Q x0 x5 x6 x13 x61 S:=d9 C0 C2 C1 mixed (by kernel_rfl) h
noncomputable def a9p:Code:=(i6 [1,1,1,0,1,0,1,1,1,1,1,1,1,1,1,1,1] (Try.f60.body.getD .skip))
def a8f(E:d6)(w0:i9)(Q:D→b4→Prop):j5→List D→b4→Prop:=
 (q9 0 (W1 Try.prog E w0 C0 C2 C1 (i6 [1,1,1,1] (Try.f60.body.getD .skip)) (K3 Try.prog Try.f60 Q)))
def a2Z(E:d6)(w0:i9)(Q:D→b4→Prop)(x0 x5 x6 x13 x50:D)(S:b4):Prop:=
 f0 x50
 (s5 Try.prog E w0 j9 [(.int .i64 1),(.int .i64 5)] S fun v46 S47=>
 a8 (C9 (r9 [(.int .i64 0), .nilFn] [(0,1,(.int .i64 1)),(1,1,v46)])) fun v48=>
 L2 S47 2 (y9 2 (List.replicate 1 [(.int .i64 0), .nilFn]) [(0,v48)]) 1 fun v49 S50=>
 Q (.tup [v49,(.bool true)]) S50)
 (a8 (d4 .eql x13 (.int .u8 29)) fun v51=>
 f0 v51
 (a8 (s4 S 2 x6) fun v52=>
 a8 (s4 S 2 x6) fun v53=>
 L2 S 2 (y9 2 (List.replicate 2 [(.int .i64 0), .nilFn]) [(0,v52),(1,v53)]) 2 fun v54 S55=>
 Q (.tup [v54,(.bool true)]) S55)
 (a8 (d4 .eql x13 (.int .u8 46)) fun v80=>
 f0 v80
 (I0 E w0 Q x0 x5 x6 x13 v80 S)
 (a8 (d4 .eql x13 (.int .u8 47)) fun v81=>
 f0 v81
 (I0 E w0 Q x0 x5 x6 x13 v81 S)
 (a8 (d4 .eql x13 (.int .u8 48)) fun v82=>
 I0 E w0 Q x0 x5 x6 x13 v82 S))))
def Q9(E:d6)(w0:i9)(Q:D→b4→Prop)(x0 x5 x6 x13 x50:D)(S:b4):Prop:=c9 Try.prog E w0 a9p (d8 90 [0,5,6,13,50] [x0,x5,x6,x13,x50]) S (a8f E w0 Q)
theorem a5X{E:d6}{w0:i9}{Q:D→b4→Prop}{x0 x5 x6 x13 x50:D}{S:b4}(h:a2Z E w0 Q x0 x5 x6 x13 x50 S):Q9 E w0 Q x0 x5 x6 x13 x50 S:=d9 C0 C2 C1 mixed (by kernel_rfl) h
noncomputable def a8Y:Code:=(i6 [1,1,1,0,1,0,1,1,1,1,1,1,1,1,1] (Try.f60.body.getD .skip))
def a7y(E:d6)(w0:i9)(Q:D→b4→Prop):j5→List D→b4→Prop:=
 (q9 0 (W1 Try.prog E w0 C0 C2 C1 (i6 [1,1,1,1] (Try.f60.body.getD .skip)) (K3 Try.prog Try.f60 Q)))
def a3l(E:d6)(w0:i9)(Q:D→b4→Prop)(x0 x4 x5 x6 x13 x44:D)(S:b4):Prop:=
 f0 x44
 (a8 (s4 S 2 x4) fun v42=>
 a8 (s4 S 2 x4) fun v43=>
 L2 S 2 (y9 2 (List.replicate 2 [(.int .i64 0), .nilFn]) [(0,v42),(1,v43)]) 2 fun v44 S45=>
 Q (.tup [v44,(.bool true)]) S45)
 (a8 (d4 .eql x13 (.int .u8 23)) fun v83=>
 f0 v83
 (Q9 E w0 Q x0 x5 x6 x13 v83 S)
 (a8 (d4 .eql x13 (.int .u8 24)) fun v84=>
 Q9 E w0 Q x0 x5 x6 x13 v84 S))
def Q3(E:d6)(w0:i9)(Q:D→b4→Prop)(x0 x4 x5 x6 x13 x44:D)(S:b4):Prop:=c9 Try.prog E w0 a8Y (d8 90 [0,4,5,6,13,44] [x0,x4,x5,x6,x13,x44]) S (a7y E w0 Q)
theorem a5U{E:d6}{w0:i9}{Q:D→b4→Prop}{x0 x4 x5 x6 x13 x44:D}{S:b4}(h:a3l E w0 Q x0 x4 x5 x6 x13 x44 S):Q3 E w0 Q x0 x4 x5 x6 x13 x44 S:=d9 C0 C2 C1 mixed (by kernel_rfl) h
noncomputable def b0p:Code:=(i6 [1,1,1,0,1,0,1,1,1,1,1,1,1] (Try.f60.body.getD .skip))
def a9f(E:d6)(w0:i9)(Q:D→b4→Prop):j5→List D→b4→Prop:=
 (q9 0 (W1 Try.prog E w0 C0 C2 C1 (i6 [1,1,1,1] (Try.f60.body.getD .skip)) (K3 Try.prog Try.f60 Q)))
def a4h(E:d6)(w0:i9)(Q:D→b4→Prop)(x0 x4 x5 x6 x13 x29:D)(S:b4):Prop:=
 f0 x29
 (a8 (s4 S 2 x4) fun v39=>
 L2 S 2 (y9 2 (List.replicate 1 [(.int .i64 0), .nilFn]) [(0,v39)]) 1 fun v40 S41=>
 Q (.tup [v40,(.bool true)]) S41)
 (a8 (d4 .eql x13 (.int .u8 37)) fun v85=>
 f0 v85
 (Q3 E w0 Q x0 x4 x5 x6 x13 v85 S)
 (a8 (d4 .eql x13 (.int .u8 38)) fun v86=>
 Q3 E w0 Q x0 x4 x5 x6 x13 v86 S))
def n8(E:d6)(w0:i9)(Q:D→b4→Prop)(x0 x4 x5 x6 x13 x29:D)(S:b4):Prop:=c9 Try.prog E w0 b0p (d8 90 [0,4,5,6,13,29] [x0,x4,x5,x6,x13,x29]) S (a9f E w0 Q)
theorem a6I{E:d6}{w0:i9}{Q:D→b4→Prop}{x0 x4 x5 x6 x13 x29:D}{S:b4}(h:a4h E w0 Q x0 x4 x5 x6 x13 x29 S):n8 E w0 Q x0 x4 x5 x6 x13 x29 S:=d9 C0 C2 C1 mixed (by kernel_rfl) h
def a7D(E:d6)(w0:i9)(Q:D→b4→Prop)(a0:D)(S:b4):Prop:=
 s5 Try.prog E w0 j9 [(.int .i64 0),(.int .i64 65535)] S fun v0 S1=>
 a8 (C9 (r9 [(.int .i64 0), .nilFn] [(0,1,(.int .i64 2)),(1,1,v0)])) fun v2=>
 s5 Try.prog E w0 j9 [(.int .i64 0),(.int .i64 4294967295)] S1 fun v3 S4=>
 a8 (C9 (r9 [(.int .i64 0), .nilFn] [(0,1,(.int .i64 4)),(1,1,v3)])) fun v5=>
 p4 S4 [(.int .i64 0), .nilFn] fun v6 S7=>
 p4 S7 [(.int .i64 0), .nilFn] fun v8 S9=>
 j6 S9 2 v6 v2 fun v10 S11=>
 j6 S11 2 v8 v5 fun v12 S13=>
 s5 Try.prog E w0 j9 [(.int .i64 1),(.int .i64 3)] S13 fun v14 S15=>
 a8 (C9 (r9 [(.int .i64 0), .nilFn] [(0,1,(.int .i64 1)),(1,1,v14)])) fun v16=>
 p4 S15 [(.int .i64 0), .nilFn] fun v17 S18=>
 j6 S18 2 v17 v16 fun v19 S20=>
 a8 (d4 .eql a0 (.int .u8 1)) fun v21=>
 f0 v21
 (s5 Try.prog E w0 w9 [(.int .u8 1)] S20 fun v22 S23=>
 a8 (C9 (r9 [(.int .i64 0), .nilFn] [(0,1,(.int .i64 1)),(1,1,v22)])) fun v24=>
 L2 S23 2 (y9 2 (List.replicate 1 [(.int .i64 0), .nilFn]) [(0,v24)]) 1 fun v25 S26=>
 Q (.tup [v25,(.bool true)]) S26)
 (a8 (d4 .eql a0 (.int .u8 2)) fun v27=>
 f0 v27
 (s5 Try.prog E w0 w9 [(.int .u8 2)] S20 fun v28 S29=>
 a8 (C9 (r9 [(.int .i64 0), .nilFn] [(0,1,(.int .i64 4)),(1,1,v28)])) fun v30=>
 L2 S29 2 (y9 2 (List.replicate 1 [(.int .i64 0), .nilFn]) [(0,v30)]) 1 fun v31 S32=>
 Q (.tup [v31,(.bool true)]) S32)
 (a8 (d4 .eql a0 (.int .u8 3)) fun v33=>
 f0 v33
 (s5 Try.prog E w0 w9 [(.int .u8 3)] S20 fun v34 S35=>
 a8 (C9 (r9 [(.int .i64 0), .nilFn] [(0,1,(.int .i64 8)),(1,1,v34)])) fun v36=>
 L2 S35 2 (y9 2 (List.replicate 1 [(.int .i64 0), .nilFn]) [(0,v36)]) 1 fun v37 S38=>
 Q (.tup [v37,(.bool true)]) S38)
 (a8 (d4 .eql a0 (.int .u8 6)) fun v87=>
 f0 v87
 (n8 E w0 Q a0 v6 v8 v17 a0 v87 S20)
 (a8 (d4 .eql a0 (.int .u8 7)) fun v88=>
 f0 v88
 (n8 E w0 Q a0 v6 v8 v17 a0 v88 S20)
 (a8 (d4 .eql a0 (.int .u8 8)) fun v89=>
 f0 v89
 (n8 E w0 Q a0 v6 v8 v17 a0 v89 S20)
 (a8 (d4 .eql a0 (.int .u8 50)) fun v90=>
 f0 v90
 (n8 E w0 Q a0 v6 v8 v17 a0 v90 S20)
 (a8 (d4 .eql a0 (.int .u8 36)) fun v91=>
 f0 v91
 (n8 E w0 Q a0 v6 v8 v17 a0 v91 S20)
 (a8 (d4 .eql a0 (.int .u8 39)) fun v92=>
 f0 v92
 (n8 E w0 Q a0 v6 v8 v17 a0 v92 S20)
 (a8 (d4 .eql a0 (.int .u8 40)) fun v93=>
 f0 v93
 (n8 E w0 Q a0 v6 v8 v17 a0 v93 S20)
 (a8 (d4 .eql a0 (.int .u8 41)) fun v94=>
 f0 v94
 (n8 E w0 Q a0 v6 v8 v17 a0 v94 S20)
 (a8 (d4 .eql a0 (.int .u8 42)) fun v95=>
 f0 v95
 (n8 E w0 Q a0 v6 v8 v17 a0 v95 S20)
 (a8 (d4 .eql a0 (.int .u8 43)) fun v96=>
 f0 v96
 (n8 E w0 Q a0 v6 v8 v17 a0 v96 S20)
 (a8 (d4 .eql a0 (.int .u8 44)) fun v97=>
 f0 v97
 (n8 E w0 Q a0 v6 v8 v17 a0 v97 S20)
 (a8 (d4 .eql a0 (.int .u8 45)) fun v98=>
 n8 E w0 Q a0 v6 v8 v17 a0 v98 S20))))))))))))))
theorem b0G{E:d6}{w0:i9}{Q:D→b4→Prop}{a0:D}{S:b4}(h:a7D E w0 (b9 E Q) a0 S):s5 Try.prog E w0 a3D [a0] S Q:=
 q8 C0 C2 C1 (fn:=Try.f60) (c:=Try.f60.body.getD .skip) mixed Try.func60 (by kernel_rfl) (by kernel_rfl) h
end Go.Proofs.Ytdkidgkiplcggaa.d
end
section
open Go.Proofs Go Go.Am Go.Op
namespace Go.Proofs.Ytdkidgkiplcggaa.d
section
def fR(l:List Fld):List (List D):=l.map fun f=>[.int .i64 (f.size:Int),V2 f.lo f.hi]
def a4P(op:Int):List (List D):=if op=1 then[[.int .i64 1,a6a 1]]else if op=2 then[[.int .i64 4,a6a 2]]else if op=3 then[[.int .i64 8,a6a 3]]else fR ((lay op).getD [])
section
variable{E:d6}{w0:i9}{S:b4}{Q:D→b4→Prop}{k4 k5 k6:Nat}{a4 a5 a6:List AV}{op:Int}{b:Bool}
theorem a1K{n:Int}{v:D}(h:r7 v=some [v]):C9 (r9 [(.int .i64 0), .nilFn] [(0,1,(.int .i64 n)),(1,1,v)])=some (.agg [.int .i64 n,v]):=by
 simp[r9,h,o3]
@[simp] theorem a7Z(lo hi:Int):r7 (V2 lo hi)=some [V2 lo hi]:=(rfl)
@[simp] theorem b3S(w:Int):r7 (a6a w)=some [a6a w]:=(rfl)
theorem a0S{n:Int}{v:D}{K:D→b4→Prop}(h:K (.lst [[.int .i64 n,v]] 2) S):L2 S 2 (y9 2 (List.replicate 1 [(.int .i64 0), .nilFn]) [(0, .agg [.int .i64 n,v])]) 1 K:=by
 simp only[y9,clA,List.length_cons,List.length_nil,List.replicate,List.set]
 rw[if_pos (by decide)]
 exact V7 rfl h
theorem b8O{n:Int}{v:D}{K:D→b4→Prop}(h:K (.lst [[.int .i64 n,v],[.int .i64 n,v]] 2) S):L2 S 2 (y9 2 (List.replicate 2 [(.int .i64 0), .nilFn]) [(0, .agg [.int .i64 n,v]),(1, .agg [.int .i64 n,v])]) 2 K:=by
 simp only[y9,clA,List.length_cons,List.length_nil,List.replicate,List.set]
 rw[if_pos (by decide),if_pos (by decide)]
 exact V7 rfl h
theorem bx{k:Nat}{n:Int}{v:D}{acs:List AV}(h:S k=some ⟨2,[[.int .i64 n,v]],acs⟩):s4 S 2 (.ptr k 0)=some (.agg [.int .i64 n,v]):=laP h ⟨by decide,by simp⟩
theorem b8g(h5:S k5=some ⟨2,[[.int .i64 4,V2 0 4294967295]],a5⟩)(h6:S k6=some ⟨2,[[.int .i64 1,V2 1 3]],a6⟩)(hQ:b9 E Q (.tup [.lst (fR ((c0m b op).getD [])) 2, .bool (c0m b op).isSome]) S):
  I0 E w0 (b9 E Q) (.int .u8 op) (.ptr k5 0) (.ptr k6 0) (.int .u8 op) (.bool b) S:=by
 refine a6c ?_
 unfold a2Y
 unfold c0m at hQ
 have nilq:b9 E Q (.tup [.lst [] 2, .bool true]) S→b9 E Q (.tup [.nilSlc, .bool true]) S:=fun h=>b9.nilT (lp:=[]) (sz:=2) h
 have nilf:b9 E Q (.tup [.lst [] 2, .bool false]) S→b9 E Q (.tup [.nilSlc, .bool false]) S:=fun h=>b9.nilT (lp:=[]) (sz:=2) h
 cases b with
 |true=>rw[cdT,bx h5,oD];exact a0S hQ
 |false=>
  rw[cdF,a4l,oD,cdB]
  simp only[Bool.false_eq_true,if_false]at hQ
  refine⟨fun h=> ?_,fun h=> ?_⟩
  ·rw[if_pos (by simpa using h)]at hQ
   refine B1.use ?_
   rw[a1K (a7Z _ _),oD]
   exact a0S hQ
  rw[if_neg (by simpa using h)]at hQ
  rw[a4l,oD,cdB]
  refine⟨fun h=> ?_,fun h=> ?_⟩
  ·rw[if_pos (by simpa using h)]at hQ;rw[bx h6,oD];exact a0S hQ
  rw[if_neg (by simpa using h)]at hQ
  by_cases h1:11≤op
  ·by_cases h2:op≤28
   ·rw[if_pos ⟨h1,h2⟩]at hQ
    simp[h1,h2,bx h6]
    exact a0S hQ
   ·rw[if_neg (by omega)]at hQ
    simp[h1,h2]
    by_cases h3:op≤52
    ·rw[if_pos (by omega)]at hQ
     simp[show(1:Int)≤op by omega,h3]
     exact nilq hQ
    ·rw[if_neg (by omega)]at hQ
     simp[show(1:Int)≤op by omega,h3]
     exact nilf hQ
  ·rw[if_neg (by omega)]at hQ
   simp[h1]
   by_cases h3:1≤op
   ·rw[if_pos (by omega)]at hQ
    simp[h3,show op≤52 by omega]
    exact nilq hQ
   ·rw[if_neg (by omega)]at hQ
    simp[h3]
    exact nilf hQ
theorem c0Y(h5:S k5=some ⟨2,[[.int .i64 4,V2 0 4294967295]],a5⟩)(h6:S k6=some ⟨2,[[.int .i64 1,V2 1 3]],a6⟩)(hQ:b9 E Q (.tup [.lst (fR ((b9A b op).getD [])) 2, .bool (b9A b op).isSome]) S):
  Q9 E w0 (b9 E Q) (.int .u8 op) (.ptr k5 0) (.ptr k6 0) (.int .u8 op) (.bool b) S:=by
 refine a5X ?_
 unfold a2Z
 unfold b9A at hQ
 cases b with
 |true=>
  rw[cdT]
  refine B1.use ?_
  rw[a1K (a7Z _ _),oD]
  exact a0S hQ
 |false=>
  rw[cdF,a4l,oD,cdB]
  simp only[Bool.false_eq_true,if_false]at hQ
  refine⟨fun h=> ?_,fun h=> ?_⟩
  ·rw[if_pos (by simpa using h)]at hQ;rw[bx h6,oD,oD];exact b8O hQ
  rw[if_neg (by simpa using h)]at hQ
  simp only[a4l,oD,cdB]
  refine⟨fun h=> ?_,fun h=>⟨fun h'=> ?_,fun h'=> ?_⟩⟩
  ·rw[h];refine b8g h5 h6 ?_;simpa [h]using hQ
  ·rw[h'];refine b8g h5 h6 ?_;simpa [h,h']using hQ
  ·refine b8g h5 h6 ?_;simpa [h,h']using hQ
theorem c0v(h4:S k4=some ⟨2,[[.int .i64 2,V2 0 65535]],a4⟩)(h5:S k5=some ⟨2,[[.int .i64 4,V2 0 4294967295]],a5⟩)(h6:S k6=some ⟨2,[[.int .i64 1,V2 1 3]],a6⟩)(hQ:b9 E Q (.tup [.lst (fR ((b9J b op).getD [])) 2, .bool (b9J b op).isSome]) S):
  Q3 E w0 (b9 E Q) (.int .u8 op) (.ptr k4 0) (.ptr k5 0) (.ptr k6 0) (.int .u8 op) (.bool b) S:=by
 refine a5U ?_
 unfold a3l
 unfold b9J at hQ
 cases b with
 |true=>rw[cdT,bx h4,oD,oD];exact b8O hQ
 |false=>
  rw[cdF]
  simp only[Bool.false_eq_true,if_false]at hQ
  simp only[a4l,oD,cdB]
  refine⟨fun h=> ?_,fun h=> ?_⟩
  ·rw[h];refine c0Y h5 h6 ?_;simpa [h]using hQ
  ·refine c0Y h5 h6 ?_;simpa [h]using hQ
theorem c3y(h4:S k4=some ⟨2,[[.int .i64 2,V2 0 65535]],a4⟩)(h5:S k5=some ⟨2,[[.int .i64 4,V2 0 4294967295]],a5⟩)(h6:S k6=some ⟨2,[[.int .i64 1,V2 1 3]],a6⟩)(hQ:b9 E Q (.tup [.lst (fR ((b8l b op).getD [])) 2, .bool (b8l b op).isSome]) S):
  n8 E w0 (b9 E Q) (.int .u8 op) (.ptr k4 0) (.ptr k5 0) (.ptr k6 0) (.int .u8 op) (.bool b) S:=by
 refine a6I ?_
 unfold a4h
 unfold b8l at hQ
 cases b with
 |true=>rw[cdT,bx h4,oD];exact a0S hQ
 |false=>
  rw[cdF]
  simp only[Bool.false_eq_true,if_false]at hQ
  simp only[a4l,oD,cdB]
  refine⟨fun h=> ?_,fun h=> ?_⟩
  ·rw[h];refine c0v h4 h5 h6 ?_;simpa [h]using hQ
  ·refine c0v h4 h5 h6 ?_;simpa [h]using hQ
theorem b2Q:a1c Try.prog E w0 a3D [.int .u8 op] (.tup [.lst (a4P op) 2, .bool (lay op).isSome]):=fun S0=>by
 refine b0G ?_
 unfold a7D
 refine B1.use ?_
 rw[a1K (a7Z _ _),oD]
 refine B1.use ?_
 rw[a1K (a7Z _ _),oD]
 intro k4 a4 n4 k5 a5 n5
 obtain⟨ne5,n5'⟩:=b4.fresh n5
 refine stP (ds:=[.int .i64 2,V2 0 65535]) (by rw[b4.set_ne _ _ _ (Ne.symm ne5)];exact b4.set_same _ _ _) (clA _) ⟨rfl,by decide,by simp⟩ fun a4=> ?_
 rw[b4.set_in _ (Ne.symm ne5)]
 refine stP (ds:=[.int .i64 4,V2 0 4294967295]) (b4.set_same _ _ _) (clA _) ⟨rfl,by decide,by simp⟩ fun a5=> ?_
 rw[b4.set_set]
 refine B1.use ?_
 rw[a1K (a7Z _ _),oD]
 intro k6 a6 n6
 refine stP (ds:=[.int .i64 1,V2 1 3]) (b4.set_same _ _ _) (clA _) ⟨rfl,by decide,by simp⟩ fun a6=> ?_
 rw[b4.set_set]
 obtain⟨ne6,n6'⟩:=b4.fresh n6
 obtain⟨ne6',n6''⟩:=b4.fresh n6'
 generalize hS:((S0.set k4 _).set k5 _).set k6 _=S
 have hle:S0.le S:=by rw[←hS];exact b4.le_set (b4.le_set (b4.le_new n4) n5') n6''
 have h6:S k6=some ⟨2,[[.int .i64 1,V2 1 3]],a6⟩:=by rw[←hS];exact b4.set_same _ _ _
 have h5:S k5=some ⟨2,[[.int .i64 4,V2 0 4294967295]],a5⟩:=by rw[←hS,b4.set_ne _ _ _ (Ne.symm ne6)];exact b4.set_same _ _ _
 have h4:S k4=some ⟨2,[[.int .i64 2,V2 0 65535]],a4⟩:=by rw[←hS,b4.set_ne _ _ _ (Ne.symm ne6'),b4.set_ne _ _ _ (Ne.symm ne5)];exact b4.set_same _ _ _
 have hQ:b9 E (fun d' S'=>d'= .tup [.lst (a4P op) 2, .bool (lay op).isSome]∧S'=S0) (.tup [.lst (a4P op) 2, .bool (lay op).isSome]) S:=b9.less hle b9.pure
 clear hS
 generalize hQ0:(fun d' S'=>d'=D.tup [.lst (a4P op) 2, .bool (lay op).isSome]∧S'=S0)=Q0 at hQ ⊢
 clear hQ0
 simp only[a4l,oD,cdB,beq_iff_eq,beq_eq_false_iff_ne,ne_eq]
 refine⟨fun h=> ?_,fun g1=>⟨fun h=> ?_,fun g2=>⟨fun h=> ?_,fun g3=> ?_⟩⟩⟩
 ·refine X2.use ?_
  rw[a1K (b3S _),oD]
  refine a0S ?_
  rw[h]at hQ;exact hQ
 ·refine X2.use ?_
  rw[a1K (b3S _),oD]
  refine a0S ?_
  rw[h]at hQ;exact hQ
 ·refine X2.use ?_
  rw[a1K (b3S _),oD]
  refine a0S ?_
  rw[h]at hQ;exact hQ
 have e:lay op=b8l (op==6||op==7||op==8||op==50||op==36||op==39||op==40||op==41||op==42||op==43||op==44||op==45) op:=by unfold lay;rw[if_neg g1,if_neg g2,if_neg g3]
 rw[show a4P op=fR ((lay op).getD []) by unfold a4P;rw[if_neg g1,if_neg g2,if_neg g3],e]at hQ
 generalize hb:(op==6||op==7||op==8||op==50||op==36||op==39||op==40||op==41||op==42||op==43||op==44||op==45)=b at hQ
 have fin:∀c:Bool,c=b→n8 E w0 (b9 E Q0) (.int .u8 op) (.ptr k4 0) (.ptr k5 0) (.ptr k6 0) (.int .u8 op) (.bool c) S:=by
  rintro c rfl
  exact c3y h4 h5 h6 hQ
 refine⟨fun h=>fin _ (by rw[←hb];simp[h]),fun h1=>⟨fun h=>fin _ (by rw[←hb];simp[h]),fun h2=>⟨fun h=>fin _ (by rw[←hb];simp[h]),fun h3=>⟨fun h=>fin _ (by rw[←hb];simp[h]),fun h4=>⟨fun h=>fin _ (by rw[←hb];simp[h]),fun h5=>⟨fun h=>fin _ (by rw[←hb];simp[h]),fun h6=>
  ⟨fun h=>fin _ (by rw[←hb];simp[h]),fun h7=>⟨fun h=>fin _ (by rw[←hb];simp[h]),fun h8=>⟨fun h=>fin _ (by rw[←hb];simp[h]),fun h9=>⟨fun h=>fin _ (by rw[←hb];simp[h]),fun h10=>⟨fun h=>fin _ (by rw[←hb];simp[h]),fun h11=>fin _ (by rw[←hb];simp[h1,h2,h3,h4,h5,h6,h7,h8,h9,h10,h11])⟩⟩⟩⟩⟩⟩⟩⟩⟩⟩⟩
end
end
section
def b0s(fv:D)(lo hi:Int):Prop:=fv=V2 lo hi∨∃w,fv=a6a w∧lo=Y8 w∧hi=Z1 w
theorem b0s.bet(lo hi:Int):b0s (V2 lo hi) lo hi:= .inl rfl
theorem b0s.fit(w:Int):b0s (a6a w) (Y8 w) (Z1 w):= .inr ⟨w,rfl,rfl,rfl⟩
theorem b0s.cells{fv:D}{lo hi:Int}(h:b0s fv lo hi):r7 fv=some [fv]:=by
 rcases h with rfl|⟨w,rfl,_⟩<;>rfl
theorem c5I:a1q Try.prog K8=true:=by kernel_rfl
theorem c5s:a1q Try.prog Y2=true:=by kernel_rfl
def b6b(row:List D)(f:Fld):Prop:=∃fv,row=[.int .i64 (f.size:Int),fv]∧b0s fv f.lo f.hi
theorem c1s{op:Int}{i:Nat}{f:Fld}(h:((lay op).getD [])[i]? =some f):∃row,(a4P op)[i]? =some row∧b6b row f:=by
 unfold a4P
 by_cases h1:op=1
 ·have e:lay op=some [⟨1,Y8 1,Z1 1⟩]:=by unfold lay;rw[if_pos h1]
  rw[e]at h
  rw[if_pos h1]
  cases i with
  |zero=>cases h;exact⟨_,rfl,_,rfl, .fit 1⟩
  |succ i=>cases h
 rw[if_neg h1]
 by_cases h2:op=2
 ·have e:lay op=some [⟨4,Y8 2,Z1 2⟩]:=by unfold lay;rw[if_neg h1,if_pos h2]
  rw[e]at h
  rw[if_pos h2]
  cases i with
  |zero=>cases h;exact⟨_,rfl,_,rfl, .fit 2⟩
  |succ i=>cases h
 rw[if_neg h2]
 by_cases h3:op=3
 ·have e:lay op=some [⟨8,Y8 3,Z1 3⟩]:=by unfold lay;rw[if_neg h1,if_neg h2,if_pos h3]
  rw[e]at h
  rw[if_pos h3]
  cases i with
  |zero=>cases h;exact⟨_,rfl,_,rfl, .fit 3⟩
  |succ i=>cases h
 rw[if_neg h3]
 exact⟨_,by unfold fR;rw[List.getElem?_map,h];rfl,_,rfl, .bet _ _⟩
theorem b4T{op:Int}:(a4P op).length=((lay op).getD []).length:=by
 unfold a4P
 by_cases h1:op=1
 ·rw[if_pos h1];unfold lay;rw[if_pos h1];rfl
 rw[if_neg h1]
 by_cases h2:op=2
 ·rw[if_pos h2];unfold lay;rw[if_neg h1,if_pos h2];rfl
 rw[if_neg h2]
 by_cases h3:op=3
 ·rw[if_pos h3];unfold lay;rw[if_neg h1,if_neg h2,if_pos h3];rfl
 rw[if_neg h3,fR,List.length_map]
section
variable{E:d6}{w0:i9}{S0 S:b4}{t:D}{bs ms:List Int}
theorem b7n{fv:D}{lo hi n:Int}(h:b0s fv lo hi)(hn:I64 n){K:D→b4→Prop}(hK:K (.bool (decide (lo≤n∧n≤hi))) S):a5e Try.prog (s5 Try.prog E w0) S fv [.int .i64 n] K:=by
 rcases h with rfl|⟨w,rfl,rfl,rfl⟩
 ·simp only[V2,a5e,a6C,c5I,if_true]
  exact a8U.use hK
 ·simp only[a6a,a5e,a6C,c5s,if_true]
  exact(b3e hn).use hK
end
end
end Go.Proofs.Ytdkidgkiplcggaa.d
end
section
namespace Go.Am
section
def WkR:List (List D)→List (List D)→Prop
 | [],[]=>True
 |r::rs,q::qs=>(WkL r q∧r.length=q.length)∧WkR rs qs
 |_,_=>False
theorem WkR.length:∀ {rs qs:List (List D)},WkR rs qs→rs.length=qs.length
 | [],[],_=>rfl
 |r::rs,q::qs,h=>by rw[List.length_cons,List.length_cons,WkR.length h.2]
 | [],_::_,h=>h.elim
 |_::_,[],h=>h.elim
theorem WkR.row:∀ {rs qs:List (List D)} {sz:Nat},WkR rs qs→(∀r∈rs,r.length=sz)→∀q∈qs,q.length=sz
 | [],[],sz,_,_=>fun q hq=>by cases hq
 |r::rs,q::qs,sz,h,hr=>fun y hy=>by
  rcases List.mem_cons.1 hy with e|hy
  ·subst e;rw[←h.1.2];exact hr r List.mem_cons_self
  ·exact WkR.row h.2 (fun r hr'=>hr r (List.mem_cons_of_mem _ hr')) y hy
 | [],_::_,_,h,_=>h.elim
 |_::_,[],_,h,_=>h.elim
theorem WkR.ok{E:d6}{R:Fz}:∀ {rs qs:List (List D)} {vs:List AV},WkR rs qs→U0 E R rs vs→U0 E R qs vs
 | [],[],vs,_,h=>h
 |r::rs,q::qs,vs,w,h=>by
  simp only[U0]at h ⊢
  obtain⟨a,b,e,h1,h2⟩:=h
  exact⟨a,b,e,w.1.1.ok h1,WkR.ok w.2 h2⟩
 | [],_::_,_,w,_=>w.elim
 |_::_,[],_,w,_=>w.elim
theorem Wk.lst{rs qs:List (List D)}(w:WkR rs qs)(sz:Nat):Wk (.lst rs sz) (.lst qs sz):=fun E R v h=>by
 simp only[Rp]at h ⊢
 rcases h with ⟨rfl,rfl⟩|⟨o,j,cap,ex,z,e1,e2,e3,e4,e5⟩
 ·cases qs with
  |nil=>exact .inl ⟨rfl,rfl⟩
  |cons=>exact w.elim
 ·refine .inr ⟨o,j,cap,ex,z,by rw[←w.length];exact e1,e2,by rw[←w.length];exact e3,w.row e4, ?_⟩
  rcases e5 with rfl|⟨all,f1,f2,f3⟩
  ·cases qs with
   |nil=>exact .inl rfl
   |cons=>exact w.elim
  ·exact .inr ⟨all,f1,by rw[←w.length];exact w.ok f2,by rw[←w.length];exact f3⟩
theorem Wk.trans{a b c:D}(h:Wk a b)(h':Wk b c):Wk a c:=fun E R v x=>h' E R v (h E R v x)
theorem WkR.map{α:Type}{f g:α→List D}(h:∀a,WkL (f a) (g a)∧(f a).length=(g a).length):∀(l:List α),WkR (l.map f) (l.map g)
 | []=>trivial
 |a::l=>⟨h a,WkR.map h l⟩
inductive Lst (rows:List (List D)) (sz:Nat):D→Prop where
 |lst:Lst rows sz (.lst rows sz)
 |ext (more:List (List D)):Lst rows sz (.ext rows more sz)
section
variable{rows:List (List D)}{sz:Nat}{d:D}
theorem Lst.len(h:Lst rows sz d):m8 d=some (.int .i64 rows.length):=by cases h<;>rfl
theorem Lst.at(h:Lst rows sz d){i:Nat}{row:List D}(hr:rows[i]? =some row):l7 sz d (.int .i64 (i:Int))=some (.elt row 0):=by
 cases h
 ·exact b4B hr
 ·exact c5j hr
theorem Lst.rowsS(h:Lst rows sz d)(S:b4):Am.rowsS S sz d=some rows:=by
 cases h<;>simp[Am.rowsS,F4]
theorem Lst.cells(h:Lst rows sz d):r7 d=some [d]:=by cases h<;>rfl
end
theorem c3h{n cap:Nat}(h:n≤cap):A4 (.int .i64 (n:Int)) cap=some n:=by
 simp only[A4]
 rw[if_pos (by omega),Int.toNat_natCast]
theorem c5A{rows:List (List D)}{sz n:Nat}(h:n≤rows.length):V6 sz (.lst rows sz) none (some (.int .i64 (n:Int))) none=some (b4r (rows.take n) (rows.drop n) sz):=by
 simp only[V6,D5,b5f,a4G,b0C,if_true,Option.bind_some,c3h h,Option.map_some,List.drop_zero,Nat.sub_zero]
 rw[List.take_of_length_le (l:=rows.drop n) (by rw[List.length_drop];omega)]
theorem Grw.upd{S0 S:b4}{t:D}{rows:List (List D)}{sz k:Nat}{o o':s8}(h:Grw S0 t rows sz S)(hk:S0 k=some o'):Grw (S0.set k o) t rows sz (S.set k o):=by
 rcases h with ⟨rfl,rfl,rfl⟩|⟨l,acs,h,rfl,rfl⟩
 ·exact .inl ⟨rfl,rfl,rfl⟩
 ·have hne:l≠k:=fun e=>by rw[e,hk]at h;cases h
  refine .inr ⟨l,acs, ?_,rfl,b4.set_comm _ hne _ _⟩
  rw[b4.set_ne _ _ _ hne];exact h
theorem Grw.last{S0 S:b4}{t:D}{rows:List (List D)}{sz bytes:Nat}(h:Grw S0 t rows sz S){v:D}{news:List (List D)}(hv:rowsS S sz v=some news)(hn:news≠[])(hb:0<bytes∧(2*(rows.length+news.length)+768)*bytes≤2^47){K:D→b4→Prop}
  (hK:K (.lst (rows++news) sz) S0):u9 S sz bytes t v K:=by
 simp only[u9,hv]
 rcases h with ⟨rfl,rfl,rfl⟩|⟨k,acs,h,rfl,rfl⟩
 ·simp only[U3]
  rw[if_neg hn]
  refine⟨⟨hb.1,by simpa using hb.2⟩, .inl ?_⟩
  rw[List.take_of_length_le (Nat.le_refl _)]
  simpa using hK
 ·simp only[U3]
  rw[if_neg hn,b4.set_same]
  simp only
  rw[if_pos ⟨by trivial,by trivial,by omega⟩]
  refine⟨hb, .inl ?_⟩
  rw[b4.erase_set _ _ _ h,List.take_of_length_le (by simp)]
  simpa using hK
end
section
theorem b4.set_self{S:b4}{k:Nat}{o:s8}(h:S k=some o):S.set k o=S:=by
 funext j;unfold b4.set
 by_cases e:j=k
 ·subst e;rw[if_pos rfl,h]
 ·rw[if_neg e]
theorem b4.ne_of{S:b4}{k l:Nat}{o:s8}(h:S k=some o)(n:S l=Option.none):k≠l:=fun e=>by rw[e,n]at h;cases h
theorem b4.none_of{S S':b4}(h:S.le S'){k:Nat}(hk:S' k=Option.none):S k=Option.none:=by
 cases e:S k with
 |none=>rfl
 |some o=>rw[h _ _ e]at hk;cases hk
def I5(S:b4)(k sz:Nat)(c:List D):Prop:=∃a,S k=some ⟨sz,[c],a⟩
section
variable{S S':b4}{k l sz sz':Nat}{c c':List D}
theorem I5.new{a:List AV}:I5 (S.set k ⟨sz,[c],a⟩) k sz c:=⟨a,b4.set_same _ _ _⟩
theorem I5.set_ne(h:I5 S k sz c){o:s8}(hn:k≠l):I5 (S.set l o) k sz c:=by
 obtain⟨a,h⟩:=h;exact⟨a,by rw[b4.set_ne _ _ _ hn];exact h⟩
theorem I5.none(h:I5 S k sz c)(hn:S l=Option.none):k≠l:=by
 obtain⟨a,h⟩:=h;exact b4.ne_of h hn
theorem I5.set(h:I5 S k sz c){o:s8}(hn:S l=Option.none):I5 (S.set l o) k sz c:=h.set_ne (h.none hn)
theorem I5.of(h:I5 S k sz c)(e:S' k=S k):I5 S' k sz c:=by
 obtain⟨a,h⟩:=h;exact⟨a,by rw[e];exact h⟩
theorem I5.le(h:I5 S k sz c)(hl:S.le S'):I5 S' k sz c:=by
 obtain⟨a,h⟩:=h;exact⟨a,hl _ _ h⟩
theorem I5.ne(h:I5 S k sz c)(h':I5 S l sz' c')(hs:sz≠sz'):k≠l:=fun e=>by
 obtain⟨a,h⟩:=h;obtain⟨b,h'⟩:=h';subst e;rw[h]at h';cases h';exact hs rfl
theorem I5.there(h:I5 S k sz c):S k≠Option.none:=by
 obtain⟨a,h⟩:=h;rw[h];simp
theorem I5.ld(h:I5 S k sz c)(i:Nat):c8 S (.ptr k i)=c[i]? :=by obtain⟨a,h⟩:=h;exact ldP h
theorem I5.la(h:I5 S k sz c){i n:Nat}(hn:0<n∧i+n≤c.length):s4 S n (.ptr k i)=some (.agg ((c.drop i).take n)):=by obtain⟨a,h⟩:=h;exact laP h hn
theorem I5.all(h:I5 S k sz c){n:Nat}(hn:0<n)(hl:n=c.length):s4 S n (.ptr k 0)=Option.some (.agg c):=by
 rw[h.la ⟨hn,by omega⟩,List.drop_zero,List.take_of_length_le (by omega)]
theorem I5.st(h:I5 S k sz c){i n:Nat}{v:D}{ds:List D}{K:D→b4→Prop}(hv:r7 v=Option.some ds)(hn:ds.length=n∧0<n∧i+n≤c.length)(hK:∀a,K b6 (S.set k ⟨sz,[o3 c i ds],a⟩)):j6 S n (.ptr k i) v K:=by
 obtain⟨a,h⟩:=h;exact stP h hv hn hK
end
def Y9(S0:b4)(av:List Nat)(t:D)(rows:List (List D))(sz:Nat)(S:b4):Prop:=
 (t= .nilSlc∧rows=[])∨∃k acs,S0 k=Option.none∧k ∉ av∧t= .raw k 0 rows.length rows.length false sz∧S k=some ⟨sz,rows,acs⟩
section
variable{S0 S:b4}{av:List Nat}{t:D}{rows:List (List D)}{sz:Nat}
theorem Y9.nil:Y9 S0 av .nilSlc [] sz S:= .inl ⟨rfl,rfl⟩
theorem Y9.of(h:Y9 S0 av t rows sz S){S':b4}(e:∀k o,k ∉ av→S k=some o→S' k=some o):Y9 S0 av t rows sz S':=by
 rcases h with h|⟨k,acs,h0,h1,h2,h3⟩
 ·exact .inl h
 ·exact .inr ⟨k,acs,h0,h1,h2,e _ _ h1 h3⟩
theorem Y9.set(h:Y9 S0 av t rows sz S){l:Nat}{o:s8}(hl:l∈av∨S l=Option.none):Y9 S0 av t rows sz (S.set l o):=h.of fun k o' hk e=>by
 rw[b4.set_ne]
 ·exact e
 ·rintro rfl
  rcases hl with hl|hl
  ·exact hk hl
  ·rw[hl]at e;cases e
theorem Y9.le(h:Y9 S0 av t rows sz S){S':b4}(hl:S.le S'):Y9 S0 av t rows sz S':=h.of fun k o _ e=>hl _ _ e
theorem Y9.push(h:Y9 S0 av t rows sz S)(hle:S0.le S)(hav:∀j∈av,S j≠Option.none){bytes:Nat}{v:D}{news:List (List D)}(hv:rowsS S sz v=some news)(hn:news≠[])(hb:0<bytes∧(2*(rows.length+news.length)+768)*bytes≤2^47){K:D→b4→Prop}
  (hK:∀t' S',S0.le S'→(∀j∈av,S' j=S j)→Y9 S0 av t' (rows++news) sz S'→K t' S'):u9 S sz bytes t v K:=by
 simp only[u9,hv]
 rcases h with ⟨rfl,rfl⟩|⟨k,acs,h0,h1,rfl,h3⟩
 ·simp only[U3]
  rw[if_neg hn]
  refine⟨⟨hb.1,by simpa using hb.2⟩, .inr fun k acs hk=>hK _ _ (b4.le_set hle (b4.none_of hle hk)) (fun j hj=>b4.set_ne _ _ _ fun e=>hav j hj (by rw[e];exact hk)) (.inr ⟨k,acs,b4.none_of hle hk,fun hm=>hav k hm hk,by simp,by simpa using b4.set_same _ _ _⟩)⟩
 ·simp only[U3]
  rw[if_neg hn,h3]
  simp only
  rw[if_pos ⟨by trivial,by trivial,by omega⟩]
  have hke:∀j∈av,(S.erase k) j=S j:=fun j hj=>b4.erase_ne _ _ fun e=>h1 (e▸hj)
  refine⟨hb, .inr fun k' acs' hk'=> ?_⟩
  have hle':=b4.le_erase hle h0
  refine hK _ _ (b4.le_set hle' (b4.none_of hle' hk')) (fun j hj=> ?_) (.inr ⟨k',acs',b4.none_of hle' hk',fun hm=>hav k' hm (by rw[←hke k' hm];exact hk'),by simp, ?_⟩)
  ·rw[b4.set_ne,hke j hj]
   rintro rfl
   exact hav j hj (by rw[←hke j hj];exact hk')
  ·rw[b4.set_same];simp
theorem Y9.grw(h:Y9 S0 av t rows sz S)(hle:S0.le S):∃S',S'.le S∧Grw S0 t rows sz S':=by
 rcases h with ⟨rfl,rfl⟩|⟨k,acs,h0,h1,rfl,h3⟩
 ·exact⟨S0,hle, .inl ⟨rfl,rfl,rfl⟩⟩
 ·refine⟨S0.set k ⟨sz,rows,acs⟩,fun j o e=> ?_, .inr ⟨k,acs,h0,rfl,rfl⟩⟩
  unfold b4.set at e
  split at e
  ·rename_i hj;subst hj;cases e;exact h3
  ·exact hle _ _ e
theorem Y9.len(h:Y9 S0 av t rows sz S):m8 t=some (.int .i64 rows.length):=by
 rcases h with ⟨rfl,rfl⟩|⟨k,acs,_,_,rfl,_⟩<;>rfl
theorem Y9.cells(h:Y9 S0 av t rows sz S):r7 t=some [t]:=by
 rcases h with ⟨rfl,rfl⟩|⟨k,acs,_,_,rfl,_⟩<;>rfl
end
theorem s5.fin{P:Program}{E:d6}{w0:i9}{f:FuncId}{ds:List D}{S:b4}{Q Q':D→b4→Prop}(h:s5 P E w0 f ds S Q)(hq:∀d S',Q d S'→b9 E Q' d S'):s5 P E w0 f ds S Q':=fun R H avs hF hC ha=>by
 refine b1g _ _ _ _ _ (h R H avs hF hC ha) fun v H' ⟨F',R',S',d,a,b,c,e⟩=> ?_
 obtain⟨R2,S2,d2,a2,b2,c2,e2⟩:=hq _ _ e R' H' v b c
 exact⟨F',R2,S2,d2,Fz.le_trans a a2,b2,c2,e2⟩
end
end Go.Am
end
section
open Go.Proofs Go Go.Am Go.Op
namespace Go.Proofs.Ytdkidgkiplcggaa.d
section
def Z4(y:Int×Int):List D:=[.int .i64 y.1, .int .i64 y.2]
def b2H(arms:List (Int×Int)):D:= .lst (arms.map Z4) 2
def inC(y:In):List D:=[.int .u8 y.op, .int .i64 y.a, .int .i64 y.b,b2H y.arms]
def inD(y:In):D:= .agg (inC y)
section
variable{E:d6}{w0:i9}{S0 S:b4}{t:D}{bs ms:List Int}
@[simp] theorem c1K(arms:List (Int×Int)):m8 (b2H arms)=some (.int .i64 arms.length):=by simp[b2H]
theorem c2G{arms:List (Int×Int)}{i:Nat}{y:Int×Int}(h:arms[i]? =some y):l7 2 (b2H arms) (.int .i64 (i:Int))=some (.elt (Z4 y) 0):=b4B (by rw[List.getElem?_map,h];rfl)
end
end
section
theorem b6b.load{row:List D}{f:Fld}(h:b6b row f):row.length=2:=by obtain⟨fv,rfl,_⟩:=h;rfl
section
variable{E:d6}{w0:i9}{S0 S:b4}{t:D}{bs:List Int}{y:In}
end
end
section
@[simp] theorem c6c(row:List D)(rows:List (List D))(sz:Nat):l7 sz (.lst (row::rows) sz) (.int .i64 0)=some (.elt row 0):=b4B (i:=0) rfl
@[simp] theorem c6d(a row:List D)(rows:List (List D))(sz:Nat):l7 sz (.lst (a::row::rows) sz) (.int .i64 1)=some (.elt row 0):=b4B (i:=1) rfl
theorem c4I(a b:Int):(a==b)=decide (a=b):=by by_cases h:a=b<;>simp[h]
end
end Go.Proofs.Ytdkidgkiplcggaa.d
end
section
open Go.Proofs Go Go.Am
namespace Go.Proofs.Ytdkidgkiplcggaa.d
def a0J:List (Nat×List Nat):=[(8,[0,1,5])]
def a0I:List (Nat×List Nat):=[]
def a0F:List (Nat×Arr):=[]
noncomputable def Z9:Code:=(i6 [1,1,0,1,0,0] (Try.f19.body.getD .skip))
def a0e(E:d6)(w0:i9)(Q:D→b4→Prop):j5→List D→b4→Prop:=
 (q9 0 (W1 Try.prog E w0 a0J a0I a0F (i6 [1,1,1] (Try.f19.body.getD .skip)) (K3 Try.prog Try.f19 Q)))
def Z5(E:d6)(w0:i9)(N0:D→D→D→b4→Prop)(Q:D→b4→Prop)(x0 x1 x5:D)(S:b4):Prop:=
 a8 (m8 x0) fun v3=>
 a8 (d4 .lss x5 v3) fun v4=>
 f0 v4
 (a8 (l7 1 x0 x5) fun v5=>
 a8 (c8 S v5) fun v6=>
 a8 (l7 1 x1 x5) fun v7=>
 a8 (c8 S v7) fun v8=>
 a8 (d4 .neq v6 v8) fun v9=>
 f0 v9
 (Q (.bool false) S)
 (a8 (d4 .add x5 (.int .i64 1)) fun v10=>
 N0 x0 x1 v10 S))
 (Q (.bool true) S)
theorem a6e{E:d6}{w0:i9}{N0:D→D→D→b4→Prop}{Q:D→b4→Prop}{x0 x1 x5:D}{S:b4}(h:Z5 E w0 N0 Q x0 x1 x5 S):
  c9 Try.prog E w0 Z9 (d8 26 [0,1,5] [x0,x1,x5]) S (B5 (fun T S=>N0 (T.getD 0 b6) (T.getD 1 b6) (T.getD 5 b6) S) (a0e E w0 Q)):=d9 a0J a0I a0F mixed (by kernel_rfl) h
theorem a6b{E:d6}{w0:i9}{Q:D→b4→Prop}(I:Nat→D→D→D→b4→Prop)
  (step:∀n x0 x1 x5 S,I n x0 x1 x5 S→Z5 E w0 (fun x0 x1 x5 S=>∃m,m<n∧I m x0 x1 x5 S) Q x0 x1 x5 S)
  {n:Nat} {x0 x1 x5:D} {S:b4} (h:I n x0 x1 x5 S):c9 Try.prog E w0 (.loop Z9) (d8 26 [0,1,5] [x0,x1,x5]) S (a0e E w0 Q):=
 o4 (k:=26) (n:=n) (I:=fun n T S=>I n (T.getD 0 b6) (T.getD 1 b6) (T.getD 5 b6) S) (fun n T S hl hI=>p6 [0,1,5] hl (c9.mono (a6e (step n _ _ _ S hI)) fun ex T' S' _ hq=>by cases ex<;>exact hq)) (i5 ..) (Eq.mp (by kernel_rfl) h)
def a5n(E:d6)(w0:i9)(Q:D→b4→Prop)(a0 a1:D)(S:b4):Prop:=
 a8 (m8 a0) fun v0=>
 a8 (m8 a1) fun v1=>
 a8 (d4 .neq v0 v1) fun v2=>
 f0 v2
 (Q (.bool false) S)
 (c9 Try.prog E w0 (.loop Z9) (d8 26 [0,1,5] [a0,a1,(.int .i64 0)]) S (a0e E w0 Q))
theorem a7R{E:d6}{w0:i9}{Q:D→b4→Prop}{a0 a1:D}{S:b4}(h:a5n E w0 (b9 E Q) a0 a1 S):s5 Try.prog E w0 X6 [a0,a1] S Q:=
 q8 a0J a0I a0F (fn:=Try.f19) (c:=Try.f19.body.getD .skip) mixed Try.func19 (by kernel_rfl) (by kernel_rfl) h
end Go.Proofs.Ytdkidgkiplcggaa.d
end
section
open Go.Proofs Go Go.Am Go.Op
namespace Go.Proofs.Ytdkidgkiplcggaa.d
section
def iC(l:List Int):List (List D):=a1b (l.map (D.int .i64))
def iD(l:List Int):D:= .lst (iC l) 1
@[simp] theorem j0(l:List Int):(iC l).length=l.length:=by simp[iC]
theorem c1q{l:List Int}{i:Nat}{n:Int}(h:l[i]? =some n):(iC l)[i]? =some [.int .i64 n]:=b6B (by rw[List.getElem?_map,h];rfl)
theorem Z0{l:List Int}{i:Nat}{n:Int}(h:l[i]? =some n):l7 1 (iD l) (.int .i64 (i:Int))=some (.elt [.int .i64 n] 0):=b4B (c1q h)
@[simp] theorem a0d(l:List Int):m8 (iD l)=some (.int .i64 l.length):=by simp[iD]
@[simp] theorem c5g(S:b4)(l:List Int):rowsS S 1 (iD l)=some (iC l):=by simp[iD,rowsS,F4]
theorem Z3(a b:List Int):iC (a++b)=iC a++iC b:=by simp[iC,a1b]
section
variable{E:d6}{w0:i9}
theorem b0F{a b:List Int}(hl:a.length<2^60)(hb:b.length<2^60):a1c Try.prog E w0 X6 [iD a,iD b] (.bool (decide (a=b))):=fun S=>by
 refine a7R ?_
 unfold a5n
 simp only[a0d,oD,b5R]
 have e:((a.length:Int) != b.length)=decide (a.length≠b.length):=by
  by_cases h:a.length=b.length<;>simp[h,bne]
  intro h';exact h (by omega)
 rw[e,cdI]
 refine⟨fun h=> ?_,fun h=> ?_⟩
 ·rw[decide_eq_false (fun e=>h (by rw[e]))]
  exact b9.pure
 have h:a.length=b.length:=by omega
 refine a6b (I:=fun n x0 x1 x5 S'=>S'=S∧x0=iD a∧x1=iD b∧∃i:Nat,x5= .int .i64 (i:Int)∧i+n=a.length∧a.take i=b.take i) ?_ (n:=a.length) ⟨rfl,rfl,rfl,0,rfl,by omega,rfl⟩
 rintro n _ _ _ _ ⟨rfl,rfl,rfl,i,rfl,hi,ht⟩
 unfold Z5
 simp only[a0d,oD,a0U]
 rw[cdI]
 refine⟨fun hlt=> ?_,fun hge=> ?_⟩
 ·have hlt:i<a.length:=by omega
  have ea:a[i]? =some a[i]:=List.getElem?_eq_getElem hlt
  have eb:b[i]? =some b[i]:=List.getElem?_eq_getElem (by omega)
  simp only[Z0 ea,Z0 eb,oD,lsE,List.getElem?_cons_zero,b5R]
  have e:(a[i] != b[i])=decide (a[i]≠b[i]):=by by_cases h:a[i]=b[i]<;>simp[h,bne]
  rw[e,cdI]
  refine⟨fun hne=> ?_,fun he=> ?_⟩
  ·rw[decide_eq_false (fun e=>hne (by simp only[e]))]
   exact b9.pure
  ·rw[D7,oD,j1 (by omega) (by omega)]
   refine⟨n - 1,by omega,by trivial,by trivial,by trivial,i+1,rfl,by omega, ?_⟩
   rw[List.take_add_one,List.take_add_one,ht,ea,eb,Classical.not_not.1 he]
 ·rw[List.take_of_length_le (by omega),List.take_of_length_le (by omega)]at ht
  rw[decide_eq_true ht]
  exact b9.pure
end
end
section
@[simp] theorem c4h(S:b4)(arms:List (Int×Int)):rowsS S 2 (b2H arms)=some (arms.map Z4):=by simp[b2H,rowsS,F4]
theorem c2v(a b:Int):(a != b)=decide (a≠b):=by by_cases h:a=b<;>simp[h,bne]
section
variable{E:d6}{w0:i9}
end
end
section
abbrev Tx:=List UInt8
structure Ty where
 kind:Int
 name:Tx
 fields:List (Tx×Int)
 elem:Int
 len:Int
 deriving DecidableEq
structure Ro where
 name:Tx
 params:List Int
 results:List Int
 locals:Int
 stack:Int
 code:List Int
 deriving DecidableEq
structure Mo where
 types:List Ty
 texts:List Tx
 funcs:List Ro
 deriving DecidableEq
structure Ty.Ok (t:Ty):Prop where
 kind:0≤t.kind∧t.kind≤255
 name:t.name.length<2^47
 fields:t.fields.length<2^47
 names:∀f∈t.fields,f.1.length<2^47∧I64 f.2
 elem:I64 t.elem
 len:I64 t.len
structure Ro.Ok (r:Ro):Prop where
 name:r.name.length<2^47
 params:r.params.length<2^47
 results:r.results.length<2^47
 ints:∀n∈r.params++r.results,I64 n
 locals:I64 r.locals
 stack:I64 r.stack
 code:r.code.length<2^47
 bytes:∀b∈r.code,V5 b
structure Mo.Ok (m:Mo):Prop where
 types:m.types.length<2^47
 texts:m.texts.length<2^47
 funcs:m.funcs.length<2^47
 ty:∀t∈m.types,t.Ok
 tx:∀t∈m.texts,t.length<2^47
 ro:∀r∈m.funcs,r.Ok
def c2i(f:Tx×Int):List D:=[.str f.1, .int .i64 f.2]
def b6P(fs:List (Tx×Int)):D:= .lst (fs.map c2i) 2
def tyR(t:Ty):List D:=[.int .u8 t.kind, .str t.name,b6P t.fields, .int .i64 t.elem, .int .i64 t.len]
def c4Q(l:List Ty):D:= .lst (l.map tyR) 5
def c2k(l:List Tx):D:= .lst (a1b (l.map D.str)) 1
def roR(r:Ro):List D:=[.str r.name,iD r.params,iD r.results, .int .i64 r.locals, .int .i64 r.stack,bD r.code]
def c4s(l:List Ro):D:= .lst (l.map roR) 6
@[simp] theorem c4n(l:List (Tx×Int)):m8 (b6P l)=some (.int .i64 l.length):=by simp[b6P]
@[simp] theorem c4x(l:List Ty):m8 (c4Q l)=some (.int .i64 l.length):=by simp[c4Q]
@[simp] theorem c4P(l:List Tx):m8 (c2k l)=some (.int .i64 l.length):=by simp[c2k]
@[simp] theorem c4z(l:List Ro):m8 (c4s l)=some (.int .i64 l.length):=by simp[c4s]
@[simp] theorem c5O(S:b4)(p:Tx×Int):s4 S 2 (.elt (c2i p) 0)=some (.agg (c2i p)):=(rfl)
@[simp] theorem c5Z(S:b4)(p:Ty):s4 S 5 (.elt (tyR p) 0)=some (.agg (tyR p)):=(rfl)
@[simp] theorem c5U(S:b4)(p:Ro):s4 S 6 (.elt (roR p) 0)=some (.agg (roR p)):=(rfl)
theorem c2M(k:IntKind)(a b:Int):d4 .neq (.int k a) (.int k b)=some (.bool (decide (a≠b))):=by rw[b5R,c2v]
theorem a4I(k:IntKind)(a b:Int):d4 .eql (.int k a) (.int k b)=some (.bool (decide (a=b))):=by rw[a4l,c4I]
section
variable{E:d6}{w0:i9}
theorem t1:(true==false)=false:=rfl
theorem t2:(false==false)=true:=rfl
theorem t3:(false==true)=false:=rfl
theorem t4:(true==true)=true:=rfl
end
end
end Go.Proofs.Ytdkidgkiplcggaa.d
end
