/-
  TransferKnownSaid: part Kbh of its proof.
-/
import Derived.Test.YtdkidgkiplcggaaRows
import Derived.Test.YtdkidgkiplcggaaKar
import Derived.KernelRfl
import Derived.Test.YtdkidgkiplcggaaKbg
set_option linter.unusedVariables false
set_option linter.unusedSimpArgs false
set_option maxRecDepth 100000
section
open Go.Proofs Go Go.Am
namespace Go.Proofs.Ytdkidgkiplcggaa.d
def b8R:List (Nat×List Nat):=[]
def b9q:List (Nat×List Nat):=[]
def b9h:List (Nat×V5):=[]
def b1U(E:i9)(w0:j7)(Q:D→b8→Prop)(a0:D)(S:b8):Prop:=
 j8 S [.nilSlc, .nilSlc, .nilSlc] fun v0 S1=>
 m8 S1 1 (j1 1 (List.replicate 2 [(.int .i64 0)]) [(0,(.int .i64 1)),(1,(.int .i64 5))]) 2 fun v2 S3=>
 m8 S3 1 (j1 1 (List.replicate 1 [(.int .i64 0)]) [(0,(.int .i64 4))]) 1 fun v4 S5=>
 b7 (C3 (o8 [(.str []), .nilSlc, .nilSlc,(.int .i64 0),(.int .i64 0), .nilSlc] [(0,1,(.str [102])),(1,1,v2),(2,1,v4),(3,1,(.int .i64 3)),(4,1,(.int .i64 2)),(5,1,a0)])) fun v6=>
 m8 S5 6 (j1 6 (List.replicate 1 [(.str []), .nilSlc, .nilSlc,(.int .i64 0),(.int .i64 0), .nilSlc]) [(0,v6)]) 1 fun v7 S8=>
 b7 (C3 (o8 [.nilSlc, .nilSlc, .nilSlc] [(2,1,v7)])) fun v9=>
 i7 S8 3 v0 v9 fun v10 S11=>
 b7 (i4 S11 3 v0) fun v12=>Q v12 S11
theorem b5i{E:i9}{w0:j7}{Q:D→b8→Prop}{a0:D}{S:b8}(h:b1U E w0 (d9 E Q) a0 S):j6 Try.prog E w0 D2 [a0] S Q:=
 j4 b8R b9q b9h (fn:=Try.f32) (c:=Try.f32.body.getD .skip) mixed Try.func32 (by kernel_rfl) (by kernel_rfl) h
def c1N:List (Nat×List Nat):=[]
def c1K:List (Nat×List Nat):=[]
def c0t:List (Nat×V5):=[]
def b3w(E:i9)(w0:j7)(Q:D→b8→Prop)(S:b8):Prop:=
 m8 S 1 (j1 1 (List.replicate 2 [(.int .u8 0)]) [(0,(.int .u8 4)),(1,(.int .u8 51))]) 2 fun v0 S1=>
 j6 Try.prog E w0 D2 [v0] S1 fun v2 S3=>
 j8 S3 [.nilSlc, .nilSlc, .nilSlc] fun v4 S5=>
 i7 S5 3 v4 v2 fun v6 S7=>
 b7 (i4 S7 3 v4) fun v8=>
 j6 Try.prog E w0 D9 [v8,(.int .i64 0)] S7 fun v9 S10=>
 b7 (j2 v9 0) fun v11=>
 b7 (j2 v9 1) fun v12=>
 j8 S10 [.nilSlc, .nilSlc] fun v13 S14=>
 i7 S14 2 v13 v11 fun v15 S16=>
 b7 (i4 S16 3 v4) fun v17=>
 b7 (i4 S16 2 v13) fun v18=>
 j6 Try.prog E w0 u7 [v17,(.int .i64 0),(.int .i64 0),v18] S16 fun v19 S20=>
 b7 (j2 v19 0) fun v21=>
 b7 (j2 v19 1) fun v22=>
 b7 (f9 .eql v12 (.int .i64 0)) fun v23=>
 b7 (d8 (b9 v23 true) (some v22)) fun v24=>
 b7 (d8 (b9 v23 true) (f9 .eql v24 (.int .i64 0))) fun v25=>
 b7 (o0 v23 v25 (.bool false)) fun v26=>
 b7 (d8 (b9 v26 true) (some v21)) fun v27=>
 b7 (d8 (b9 v26 true) (m9 v27)) fun v28=>
 b7 (d8 (b9 v26 true) (f9 .eql v28 (.int .i64 1))) fun v29=>
 b7 (o0 v26 v29 (.bool false)) fun v30=>
 b7 (d8 (b9 v30 true) (some v21)) fun v31=>
 b7 (d8 (b9 v30 true) (p9 3 v31 (.int .i64 0))) fun v32=>
 b7 (d8 (b9 v30 true) (j5 0 v32)) fun v33=>
 b7 (d8 (b9 v30 true) (d0 S20 v33)) fun v34=>
 b7 (d8 (b9 v30 true) (f9 .eql v34 (.int .i64 1))) fun v35=>
 b7 (o0 v30 v35 (.bool false)) fun v36=>
 b7 (d8 (b9 v36 true) (some v21)) fun v37=>
 b7 (d8 (b9 v36 true) (p9 3 v37 (.int .i64 0))) fun v38=>
 b7 (d8 (b9 v36 true) (j5 1 v38)) fun v39=>
 b7 (d8 (b9 v36 true) (j5 0 v39)) fun v40=>
 b7 (d8 (b9 v36 true) (d0 S20 v40)) fun v41=>
 p8 (b9 v36 true) (fun K=>m8 S20 1 (j1 1 (List.replicate 3 [(.int .i64 0)]) [(0,(.int .i64 1)),(1,(.int .i64 5)),(2,(.int .i64 0))]) 3 K) S20 fun v42 S43=>
 p8 (b9 v36 true) (fun K=>j6 Try.prog E w0 J1 [v41,v42] S43 K) S43 fun v44 S45=>
 b7 (o0 v36 v44 (.bool false)) fun v46=>
 b7 (d8 (b9 v46 true) (some v21)) fun v47=>
 b7 (d8 (b9 v46 true) (p9 3 v47 (.int .i64 0))) fun v48=>
 b7 (d8 (b9 v46 true) (j5 1 v48)) fun v49=>
 b7 (d8 (b9 v46 true) (j5 1 v49)) fun v50=>
 b7 (d8 (b9 v46 true) (d0 S45 v50)) fun v51=>
 p8 (b9 v46 true) (fun K=>m8 S45 1 (j1 1 (List.replicate 1 [(.int .i64 0)]) [(0,(.int .i64 4))]) 1 K) S45 fun v52 S53=>
 p8 (b9 v46 true) (fun K=>j6 Try.prog E w0 J1 [v51,v52] S53 K) S53 fun v54 S55=>
 b7 (o0 v46 v54 (.bool false)) fun v56=>
 Q v56 S55
theorem b7p{E:i9}{w0:j7}{Q:D→b8→Prop}{S:b8}(h:b3w E w0 (d9 E Q) S):j6 Try.prog E w0 a7p [] S Q:=
 j4 c1N c1K c0t (fn:=Try.f29) (c:=Try.f29.body.getD .skip) mixed Try.func29 (by kernel_rfl) (by kernel_rfl) h
def c2R:List (Nat×List Nat):=[]
def c2p:List (Nat×List Nat):=[]
def c2G:List (Nat×V5):=[]
def b5V(E:i9)(w0:j7)(Q:D→b8→Prop)(a0 a1 a2 a3 a4 a5:D)(S:b8):Prop:=
 s8 S 1 1 .nilSlc a0 fun v0 S1=>
 m8 S1 1 (j1 1 (List.replicate 2 [(.int .u8 0)]) [(0,(.int .u8 4)),(1,(.int .u8 51))]) 2 fun v2 S3=>
 s8 S3 1 1 v0 v2 fun v4 S5=>
 j6 Try.prog E w0 D2 [v4] S5 fun v6 S7=>
 b7 (C3 (o8 [.nilSlc, .nilSlc] [(0,1,a1),(1,1,a2)])) fun v8=>
 j6 Try.prog E w0 u7 [v6,(.int .i64 0),(.int .i64 0),v8] S7 fun v9 S10=>
 b7 (j2 v9 0) fun v11=>
 b7 (j2 v9 1) fun v12=>
 b7 (f9 .neq v12 a3) fun v13=>
 b7 (d8 (b9 v13 false) (some a3)) fun v14=>
 b7 (d8 (b9 v13 false) (f9 .neq v14 (.int .i64 0))) fun v15=>
 b7 (o0 v13 (.bool true) v15) fun v16=>
 i5 v16
 (b7 (f9 .eql v12 a3) fun v17=>
 b7 (d8 (b9 v17 true) (some v11)) fun v18=>
 b7 (d8 (b9 v17 true) (m9 v18)) fun v19=>
 b7 (d8 (b9 v17 true) (f9 .eql v19 (.int .i64 0))) fun v20=>
 b7 (o0 v17 v20 (.bool false)) fun v21=>
 Q v21 S10)
 (b7 (m9 v11) fun v22=>
 b7 (f9 .eql v22 (.int .i64 1)) fun v23=>
 b7 (d8 (b9 v23 true) (some v11)) fun v24=>
 b7 (d8 (b9 v23 true) (p9 3 v24 (.int .i64 0))) fun v25=>
 b7 (d8 (b9 v23 true) (j5 0 v25)) fun v26=>
 b7 (d8 (b9 v23 true) (d0 S10 v26)) fun v27=>
 b7 (d8 (b9 v23 true) (some a0)) fun v28=>
 b7 (d8 (b9 v23 true) (m9 v28)) fun v29=>
 b7 (d8 (b9 v23 true) (f9 .eql v27 v29)) fun v30=>
 b7 (o0 v23 v30 (.bool false)) fun v31=>
 b7 (d8 (b9 v31 true) (some v11)) fun v32=>
 b7 (d8 (b9 v31 true) (p9 3 v32 (.int .i64 0))) fun v33=>
 b7 (d8 (b9 v31 true) (j5 1 v33)) fun v34=>
 b7 (d8 (b9 v31 true) (j5 0 v34)) fun v35=>
 b7 (d8 (b9 v31 true) (d0 S10 v35)) fun v36=>
 b7 (d8 (b9 v31 true) (some a4)) fun v37=>
 p8 (b9 v31 true) (fun K=>j6 Try.prog E w0 J1 [v36,v37] S10 K) S10 fun v38 S39=>
 b7 (o0 v31 v38 (.bool false)) fun v40=>
 b7 (d8 (b9 v40 true) (some v11)) fun v41=>
 b7 (d8 (b9 v40 true) (p9 3 v41 (.int .i64 0))) fun v42=>
 b7 (d8 (b9 v40 true) (j5 1 v42)) fun v43=>
 b7 (d8 (b9 v40 true) (j5 1 v43)) fun v44=>
 b7 (d8 (b9 v40 true) (d0 S39 v44)) fun v45=>
 b7 (d8 (b9 v40 true) (some a5)) fun v46=>
 p8 (b9 v40 true) (fun K=>j6 Try.prog E w0 J1 [v45,v46] S39 K) S39 fun v47 S48=>
 b7 (o0 v40 v47 (.bool false)) fun v49=>
 Q v49 S48)
theorem b8E{E:i9}{w0:j7}{Q:D→b8→Prop}{a0 a1 a2 a3 a4 a5:D}{S:b8}(h:b5V E w0 (d9 E Q) a0 a1 a2 a3 a4 a5 S):j6 Try.prog E w0 s9 [a0,a1,a2,a3,a4,a5] S Q:=
 j4 c2R c2p c2G (fn:=Try.f31) (c:=Try.f31.body.getD .skip) mixed Try.func31 (by kernel_rfl) (by kernel_rfl) h
end Go.Proofs.Ytdkidgkiplcggaa.d
end
section
open Go.Proofs Go Go.Am Go.Op
namespace Go.Proofs.Ytdkidgkiplcggaa.d
section
set_option linter.unusedSectionVars false
def c6D(a:Int):List Int→List Int
 | []=>[a]
 |b::l=>if a<b then a::b::l else if a=b then b::l else b::c6D a l
theorem c1h(a:Int):∀(l:List Int) (n:Int),n∈c6D a l↔n=a∨n∈l
 | [],n=>by simp[c6D]
 |b::l,n=>by
  unfold c6D
  by_cases h1:a<b
  ·rw[if_pos h1];simp
  rw[if_neg h1]
  by_cases h2:a=b
  ·rw[if_pos h2];subst h2;simp
  rw[if_neg h2,List.mem_cons,c1h a l n,List.mem_cons]
  constructor
  ·rintro(h|h|h)
   ·exact .inr (.inl h)
   ·exact .inl h
   ·exact .inr (.inr h)
  ·rintro(h|h|h)
   ·exact .inr (.inl h)
   ·exact .inl h
   ·exact .inr (.inr h)
theorem c1R(a:Int):∀(l:List Int),l.Pairwise (· < ·)→(c6D a l).Pairwise (· < ·)
 | [],_=>List.pairwise_singleton _ _
 |b::l,h=>by
  obtain⟨h0,h3⟩:=List.pairwise_cons.1 h
  unfold c6D
  by_cases h1:a<b
  ·rw[if_pos h1]
   refine List.pairwise_cons.2 ⟨fun n hn=> ?_,h⟩
   rcases List.mem_cons.1 hn with rfl|hn
   ·exact h1
   ·have:=h0 n hn;omega
  rw[if_neg h1]
  by_cases h2:a=b
  ·rw[if_pos h2];exact h
  rw[if_neg h2]
  refine List.pairwise_cons.2 ⟨fun n hn=> ?_,c1R a l h3⟩
  rcases(c1h a l n).1 hn with rfl|hn
  ·omega
  ·exact h0 n hn
def c6B(l:List Int):List Int:=l.foldr c6D []
theorem c0L:∀l:List Int,(c6B l).Pairwise (· < ·)∧∀n,n∈c6B l↔n∈l
 | []=>⟨List.Pairwise.nil,fun n=>Iff.rfl⟩
 |a::l=>by
  obtain⟨h1,h2⟩:=c0L l
  refine⟨c1R a _ h1,fun n=> ?_⟩
  show n∈c6D a (c6B l)↔_
  rw[c1h,h2,List.mem_cons]
theorem d4C(l:List Int):c7o l=c6B l:=c3r (b9E l).1 (c0L l).1 fun n=>by rw[(b9E l).2,(c0L l).2]
def c4w(y:In)(next:Int):List Int:=
 if y.op=51∨y.op=52 then[]else if y.op=46 then[y.a]else c6B (if y.op=47∨y.op=48 then[next,y.a]else if y.op=49 then y.b::y.arms.map (·.2) else[next])
theorem d3F(y:In)(next:Int):a0w y next=c4w y next:=by unfold a0w c4w;rw[d4C]
def b9B(m:Mo)(r:Ro)(y:In)(next:Int)(f:Fr):List (Int×Fr)×Int:=
 if(doS m r y f).2≠0 then([],(doS m r y f).2)
 else if(c4w y next).all (fun t=>decide (t∈b5T r)) then((c4w y next).map fun t=>(t,(doS m r y f).1),0) else([],190)
theorem d1t(m:Mo)(r:Ro)(y:In)(next:Int)(f:Fr):a9C m r y next f=b9B m r y next f:=by unfold a9C b9B;rw[d3F]
def c3u(m:Mo)(fn at':Int)(f:Fr):List (Int×Fr)×Int:=
 if(G6 m fn).2≠0 then([],(G6 m fn).2) else match m.funcs[fn.toNat]? with
  |some r=>if b1Y m r f=false then([],2) else match (b5T r).findIdx? (fun p=>decide (p=at')) with
   |none=>([],190)
   |some i=>match (c0B r)[i]? with
    |some y=>b9B m r y (a9U r i) f
    |none=>([],190)
  |none=>([],4)
theorem a7q(m:Mo)(fn at':Int)(f:Fr):X5 m fn at' f=c3u m fn at' f:=by
 unfold X5 c3u
 by_cases h:(G6 m fn).2≠0
 ·rw[if_pos h,if_pos h]
 rw[if_neg h,if_neg h]
 cases m.funcs[fn.toNat]? with
 |none=>rfl
 |some r=>
  show b4K m r at' f=_
  unfold b4K
  show _=if b1Y m r f=false then _ else _
  by_cases h:b1Y m r f=false
  ·rw[if_pos h,if_pos h]
  rw[if_neg h,if_neg h]
  cases (b5T r).findIdx? (fun p=>decide (p=at')) with
  |none=>rfl
  |some i=>
   show(match (c0B r)[i]? with|some y=>a9C m r y (a9U r i) f|none=>([],190))=(match (c0B r)[i]? with|some y=>b9B m r y (a9U r i) f|none=>([],190))
   cases (c0B r)[i]? with
   |none=>rfl
   |some y=>exact d1t _ _ _ _ _
def a9p(code:List Int):Ro:=⟨[102],[1,5],[4],3,2,code⟩
def L5(code:List Int):Mo:=⟨[],[],[a9p code]⟩
theorem a2c{code:List Int}(hb:∀b∈code,F5 b)(hl:code.length<1000):(L5 code).Fits:=by
 have hro:(a9p code).Ok:=by
  constructor
  ·simp[a9p]
  ·simp[a9p]
  ·simp[a9p]
  ·simp[a9p,X1]
  ·simp[a9p,X1]
  ·simp[a9p,X1]
  ·simp only[a9p];omega
  ·exact hb
 refine⟨⟨by simp[L5],by simp[L5],by simp[L5], ?_, ?_, ?_⟩,by simp[L5],by simp[L5],by simp[L5], ?_, ?_⟩
 ·intro t h;cases h
 ·intro t h;cases h
 ·intro r h;rcases List.mem_singleton.1 h with rfl;exact hro
 ·intro t h;cases h
 ·intro r h
  rcases List.mem_singleton.1 h with rfl
  refine⟨by simp[a9p],by simp[a9p], ?_⟩
  show code.length<_
  omega
section
variable{E:i9}{w0:j7}
theorem a4G{code:List Int}:P9 Try.prog E w0 D2 [bD code] (moD (L5 code)):=fun S=>by
 refine b5i ?_
 unfold b1U
 intro k a n
 rw[show j1 1 (List.replicate 2 [D.int .i64 0]) [(0, .int .i64 1),(1, .int .i64 5)]=some (iC [1,5]) from rfl]
 refine C9 rfl ?_
 rw[show j1 1 (List.replicate 1 [D.int .i64 0]) [(0, .int .i64 4)]=some (iC [4]) from rfl]
 refine C9 rfl ?_
 rw[show o8 [.str [], .nilSlc, .nilSlc, .int .i64 0, .int .i64 0, .nilSlc] [(0,1, .str [102]),(1,1,D.lst (iC [1,5]) 1),(2,1, .lst (iC [4]) 1),(3,1, .int .i64 3),(4,1, .int .i64 2),(5,1,bD code)]=some (P1 (a9p code)) from rfl,agS,oD,
  show j1 6 (List.replicate 1 [D.str [], .nilSlc, .nilSlc, .int .i64 0, .int .i64 0, .nilSlc]) [(0, .agg (P1 (a9p code)))]=some [P1 (a9p code)]from rfl]
 refine C9 rfl ?_
 rw[show o8 [D.nilSlc, .nilSlc, .nilSlc] [(2,1, .lst [P1 (a9p code)] 6)]=some [.nilSlc, .nilSlc, .lst [P1 (a9p code)] 6]from rfl,agS,oD]
 refine(z7.new (sz:=3) (c:=[.nilSlc, .nilSlc, .nilSlc])).st (ds:=[.nilSlc, .nilSlc, .lst [P1 (a9p code)] 6]) (W3 _) ⟨rfl,by decide,by decide⟩ fun c'=> ?_
 rw[b8.set_set]
 have ck:z7 (S.set k ⟨3,[l7 [D.nilSlc, .nilSlc, .nilSlc] 0 [.nilSlc, .nilSlc, .lst [P1 (a9p code)] 6]],c'⟩) k 3 [.nilSlc, .nilSlc, .lst [P1 (a9p code)] 6]:=z7.new
 rw[ck.all (n:=3) (by decide) rfl,oD]
 refine d9.less (b8.le_new n) (d9.weak (d':=moD (L5 code)) (Wk.agg ⟨Wk.nil _,Wk.nil _,Wk.refl _,trivial⟩) (d9.here ⟨rfl,rfl⟩))
theorem c8r:P9 Try.prog E w0 a7p [] (.bool true):=fun S=>by
 refine b7p ?_
 unfold b3w
 rw[show j1 1 (List.replicate 2 [D.int .u8 0]) [(0, .int .u8 4),(1, .int .u8 51)]=some (A9 ([4,51].map (D.int .u8))) from rfl]
 refine C9 rfl ?_
 refine(show j6 Try.prog E w0 D2 [bD [4,51]] S _ from a4G.use ?_)
 intro k a n
 refine(z7.new (sz:=3) (c:=[.nilSlc, .nilSlc, .nilSlc])).st (ds:=O9 (L5 [4,51])) (W3 _) ⟨rfl,by decide,by decide⟩ fun c'=> ?_
 rw[b8.set_set,show l7 [D.nilSlc, .nilSlc, .nilSlc] 0 (O9 (L5 [4,51]))=O9 (L5 [4,51]) from rfl]
 have ck:z7 (S.set k ⟨3,[O9 (L5 [4,51])],c'⟩) k 3 (O9 (L5 [4,51])):=z7.new
 have l1:S.le (S.set k ⟨3,[O9 (L5 [4,51])],c'⟩):=b8.le_new n
 generalize (S.set k ⟨3,[O9 (L5 [4,51])],c'⟩)=T at ck l1
 rw[ck.all (n:=3) (by decide) rfl,oD]
 have hfit:(L5 [4,51]).Fits:=a2c (by simp[F5]) (by decide)
 refine(show j6 Try.prog E w0 D9 [moD (L5 [4,51]), .int .i64 0] T _ from(a2z hfit (by simp[X1])).use ?_)
 have hfst:G6 (L5 [4,51]) 0=(⟨[1,5,0],[]⟩,0):=by kernel_rfl
 have hstp:X5 (L5 [4,51]) 0 0 ⟨[1,5,0],[]⟩=([(1,⟨[1,5,0],[4]⟩)],0):=by rw[a7q];kernel_rfl
 rw[hfst]
 unfold b3A
 simp only[exD,List.getElem?_cons_zero,List.getElem?_cons_succ,oD]
 intro k2 a2 n2
 refine(z7.new (sz:=2) (c:=[.nilSlc, .nilSlc])).st (ds:=frC ⟨[1,5,0],[]⟩) (W3 _) ⟨rfl,by decide,by decide⟩ fun c2=> ?_
 rw[b8.set_set,show l7 [D.nilSlc, .nilSlc] 0 (frC ⟨[1,5,0],[]⟩)=frC ⟨[1,5,0],[]⟩from rfl]
 have ck:=ck.set (o:=⟨2,[frC ⟨[1,5,0],[]⟩],c2⟩) n2
 have cf:z7 (T.set k2 ⟨2,[frC ⟨[1,5,0],[]⟩],c2⟩) k2 2 (frC ⟨[1,5,0],[]⟩):=z7.new
 have l1:=b8.le_trans l1 (b8.le_new (o:=⟨2,[frC ⟨[1,5,0],[]⟩],c2⟩) n2)
 generalize (T.set k2 ⟨2,[frC ⟨[1,5,0],[]⟩],c2⟩)=T at ck cf l1
 rw[ck.all (n:=3) (by decide) rfl,oD,cf.all (n:=2) (by decide) rfl,oD]
 refine(show j6 Try.prog E w0 u7 [moD (L5 [4,51]), .int .i64 0, .int .i64 0,frD ⟨[1,5,0],[]⟩] T _ from(a3z hfit (by simp[X1]) ⟨by decide,by decide,by simp[X1]⟩).use ?_)
 rw[hstp]
 unfold b7O
 simp only[exD,List.getElem?_cons_zero,List.getElem?_cons_succ,oD,L1,decide_true,N6,t4,vdT,P0,if_true]
 rw[show m9 (b2c [(1,⟨[1,5,0],[4]⟩)])=some (.int .i64 1) from rfl]
 simp only[oD,L1,decide_true,N6,t4,vdT,P0,if_true]
 have ei:p9 3 (b2c [(1,⟨[1,5,0],[4]⟩)]) (.int .i64 0)=some (.elt (edR (1,⟨[1,5,0],[4]⟩)) 0):=rfl
 have e0:∀T:b8,d0 T (.elt (edR (1,⟨[1,5,0],[4]⟩)) 0)=some (.int .i64 1):=fun _=>rfl
 have e1:∀T:b8,d0 T (.elt (edR (1,⟨[1,5,0],[4]⟩)) 1)=some (iD [1,5,0]):=fun _=>rfl
 have e2:∀T:b8,d0 T (.elt (edR (1,⟨[1,5,0],[4]⟩)) 2)=some (iD [4]):=fun _=>rfl
 simp only[oD,ofE,Nat.zero_add,Nat.add_zero,ei,e0,e1,L1,decide_true,N6,t4,vdT,P0,if_true,gdT]
 rw[show j1 1 (List.replicate 3 [D.int .i64 0]) [(0, .int .i64 1),(1, .int .i64 5),(2, .int .i64 0)]=some (iC [1,5,0]) from rfl]
 refine C9 (rows:=iC [1,5,0]) (len:=3) rfl ?_
 refine(show j6 Try.prog E w0 J1 [iD [1,5,0],iD [1,5,0]] T _ from(a1P (by decide) (by decide)).use ?_)
 simp only[oD,ofE,decide_true,N6,t4,vdT,P0,if_true,gdT,Nat.zero_add,Nat.reduceAdd,ei,e2]
 rw[show j1 1 (List.replicate 1 [D.int .i64 0]) [(0, .int .i64 4)]=some (iC [4]) from rfl]
 refine C9 (rows:=iC [4]) (len:=1) rfl ?_
 refine(show j6 Try.prog E w0 J1 [iD [4],iD [4]] T _ from(a1P (by decide) (by decide)).use ?_)
 simp only[oD,decide_true,P0,if_true]
 exact d9.less l1 (d9.here ⟨rfl,rfl⟩)
end
end
section
set_option linter.unusedSectionVars false
theorem c7z{m:Mo}{fn at':Int}{f:Fr}(h:(X5 m fn at' f).2=0):(0≤fn∧fn<m.funcs.length)∧∃r,m.funcs[fn.toNat]? =some r∧b1Y m r f=true∧∃i y,(b5T r).findIdx? (fun p=>decide (p=at'))=some i∧(c0B r)[i]? =some y∧(doS m r y f).2=0∧(X5 m fn at' f).1=(a0w y (a9U r i)).map fun t=>(t,(doS m r y f).1):=by
 unfold X5 at h ⊢
 by_cases h0:(G6 m fn).2≠0
 ·rw[if_pos h0]at h;exact absurd h h0
 rw[if_neg h0]at h ⊢
 have hr:0≤fn∧fn<m.funcs.length:=by
  have hfst:(G6 m fn).2=0:=Classical.not_not.1 h0
  unfold G6 at hfst
  by_cases he:(a5i m).2≠0
  ·rw[if_pos he]at hfst;exact absurd hfst he
  rw[if_neg he]at hfst
  by_cases hx:fn<0∨(m.funcs.length:Int)≤fn
  ·rw[if_pos hx]at hfst;cases hfst
  omega
 refine⟨hr, ?_⟩
 cases hf:m.funcs[fn.toNat]? with
 |none=>rw[hf]at h;cases h
 |some r=>
  rw[hf]at h
  refine⟨r,rfl, ?_⟩
  simp only at h ⊢
  unfold b4K at h ⊢
  cases hm:b1Y m r f with
  |false=>rw[if_pos hm]at h;cases h
  |true=>
   rw[if_neg (by simp[hm])]at h ⊢
   refine⟨rfl, ?_⟩
   cases hi:(b5T r).findIdx? (fun p=>decide (p=at')) with
   |none=>rw[hi]at h;cases h
   |some i=>
    rw[hi]at h
    simp only at h ⊢
    cases hy:(c0B r)[i]? with
    |none=>rw[hy]at h;cases h
    |some y=>
     rw[hy]at h
     simp only at h ⊢
     refine⟨i,y,rfl,hy, ?_⟩
     unfold a9C at h ⊢
     by_cases hd:(doS m r y f).2≠0
     ·rw[if_pos hd]at h;exact absurd h hd
     rw[if_neg hd]at h ⊢
     by_cases ha:((a0w y (a9U r i)).all fun t=>decide (t∈b5T r))=true
     ·rw[if_pos ha];exact⟨Classical.not_not.1 hd,rfl⟩
     ·rw[if_neg ha]at h;cases h
@[simp] theorem c7l(l:List (Int×Fr)):m9 (b2c l)=some (.int .i64 l.length):=by simp[b2c]
section
variable{E:i9}{w0:j7}
end
end
section
set_option linter.unusedSectionVars false
theorem DF.freeze{P:Program}{E:i9}{w0:j7}{f:FuncId}{pre post:List D}{S:b8}{Q:D→b8→Prop}{k:Nat}{o:D6}(hk:S k=some o){i len cap:Nat}{ex:Bool}{sz:Nat}(hsz:o.sz=sz)(hl:i+len≤o.rows.length)(hc:len≤cap)
  (h:j6 P E w0 f (pre++ .lst ((o.rows.drop i).take len) sz::post) (S.erase k) Q):j6 P E w0 f (pre++ .raw k i len cap ex sz::post) S Q:=fun R H avs F hC ha=>by
 obtain⟨v1,v2,rfl,g1,g2⟩:=a3D ha
 simp only[A0]at g2
 obtain⟨w,ws,rfl,g3,g4⟩:=g2
 have hzm:sz<M8:=by simp only[Rp]at g3;exact g3.1
 obtain⟨h1,h2⟩:=hC.freeze hk (.inl (by rw[hsz];exact hzm))
 refine(FnW.at_le h2 (h _ H _ F h1 ((A0.le h2 _ _ g1).append (u6 (a7X hC hk g3 hsz hl hc) (A0.le h2 _ _ g4))))).mono ?_
 rintro v H' ⟨F',R',S',d',hle,rest⟩
 exact⟨F',R',S',d',Fz.le_trans h2 hle,rest⟩
theorem DF.grA{P:Program}{E:i9}{w0:j7}{f:FuncId}{S0 S:b8}{Q:D→b8→Prop}{t:D}{rows:List (List D)}{sz:Nat}{av:List Nat}(hg:GrA S0 av t rows sz S)(hle:S0.le S)
  (h:∀T,S0.le T→j6 P E w0 f [.lst rows sz] T Q):j6 P E w0 f [t] S Q:=by
 rcases hg with ⟨rfl,rfl⟩|⟨k,acs,h0,h1,rfl,h3⟩
 ·exact DF.weak (es:=[.lst [] sz]) ⟨Wk.nil sz,trivial⟩ (h S hle)
 ·refine DF.freeze (pre:=[]) (post:=[]) h3 rfl (by simp) (Nat.le_refl _) ?_
  rw[List.drop_zero,List.take_of_length_le (Nat.le_refl _)]
  refine h _ fun j o e=> ?_
  have hj:j≠k:=fun e'=>by rw[e',h0]at e;cases e
  rw[b8.erase_ne _ _ hj]
  exact hle _ _ e
theorem d0Y{m:Mo}{fn at':Int}{f:Fr}(h:(X5 m fn at' f).2≠0):(X5 m fn at' f).1=[]:=by
 unfold X5 at h ⊢
 by_cases h0:(G6 m fn).2≠0
 ·rw[if_pos h0]
 rw[if_neg h0]at h ⊢
 cases hf:m.funcs[fn.toNat]? with
 |none=>rfl
 |some r=>
  rw[hf]at h
  simp only at h ⊢
  unfold b4K at h ⊢
  cases hm:b1Y m r f with
  |false=>rw[if_pos rfl]
  |true=>
   rw[if_neg (by simp[hm])]at h ⊢
   cases hi:(b5T r).findIdx? (fun p=>decide (p=at')) with
   |none=>rfl
   |some i=>
    rw[hi]at h
    simp only at h ⊢
    cases hy:(c0B r)[i]? with
    |none=>rfl
    |some y=>
     rw[hy]at h
     simp only at h ⊢
     unfold a9C at h ⊢
     by_cases hd:(doS m r y f).2≠0
     ·rw[if_pos hd]
     rw[if_neg hd]at h ⊢
     by_cases ha:((a0w y (a9U r i)).all fun t=>decide (t∈b5T r))=true
     ·rw[if_pos ha]at h;exact absurd rfl h
     ·rw[if_neg ha]
def b2x(r:List (Int×Fr)×Int)(n:Int)(after behind:List Int):Bool:=match r.1 with
 | [e]=>decide (e.1=n)&&decide (e.2.locals=after)&&decide (e.2.stack=behind)
 |_=>false
def c5Z(x locals stack:List Int)(e:Int)(after behind:List Int):Bool:=
 if(X5 (L5 (x++[4,51])) 0 0 ⟨locals,stack⟩).2≠e∨e≠0 then decide ((X5 (L5 (x++[4,51])) 0 0 ⟨locals,stack⟩).2=e)&&decide ((X5 (L5 (x++[4,51])) 0 0 ⟨locals,stack⟩).1=[])
 else b2x (X5 (L5 (x++[4,51])) 0 0 ⟨locals,stack⟩) x.length after behind
def d3Y(x locals stack:List Int)(e:Int)(after behind:List Int):Bool:=
 if(c3u (L5 (x++[4,51])) 0 0 ⟨locals,stack⟩).2≠e∨e≠0 then decide ((c3u (L5 (x++[4,51])) 0 0 ⟨locals,stack⟩).2=e)&&decide ((c3u (L5 (x++[4,51])) 0 0 ⟨locals,stack⟩).1=[])
 else b2x (c3u (L5 (x++[4,51])) 0 0 ⟨locals,stack⟩) x.length after behind
theorem a0p(x locals stack:List Int)(e:Int)(after behind:List Int):c5Z x locals stack e after behind=d3Y x locals stack e after behind:=by unfold c5Z d3Y;rw[a7q]
theorem d5b(a b:List Int):A9 (a.map (D.int .u8))++A9 (b.map (D.int .u8))=A9 ((a++b).map (D.int .u8)):=by simp[A9]
section
variable{E:i9}{w0:j7}
theorem c6H(S:b8)(l:List Int):rowsS S 1 (bD l)=some (A9 (l.map (D.int .u8))):=by simp[bD,rowsS,J2]
theorem d3m{x l s a b:List Int}{e:Int}(hx:∀n∈x,F5 n)(hx0:x≠[])(hxl:x.length<900)(hf:(⟨l,s⟩:Fr).Ok)(hal:a.length<2^40)(hbl:b.length<2^40):P9 Try.prog E w0 s9 [bD x,iD l,iD s, .int .i64 e,iD a,iD b] (.bool (c5Z x l s e a b)):=fun S=>by
 refine b8E ?_
 unfold b5V
 have n0:A9 (x.map (D.int .u8))≠[]:=fun h=>hx0 (by cases x with|nil=>rfl|cons y z=>simp[A9]at h)
 have lx:(A9 (x.map (D.int .u8))).length=x.length:=by simp[A9]
 refine(GrA.nil (S0:=S) (av:=[]) (sz:=1)).push (b8.le_refl S) (fun _ h=>by cases h) (bytes:=1) (c6H S x) n0 (by simp only[List.length_nil,lx];omega) fun u1 S1 l1 _ g1=> ?_
 rw[show j1 1 (List.replicate 2 [D.int .u8 0]) [(0, .int .u8 4),(1, .int .u8 51)]=some (A9 ([4,51].map (D.int .u8))) from rfl]
 refine C9 rfl ?_
 refine g1.push l1 (fun _ h=>by cases h) (bytes:=1) (c6H S1 [4,51]) (by simp[A9]) (by simp only[List.nil_append,lx];simp[A9];omega) fun u2 S2 l2 _ g2=> ?_
 rw[List.nil_append,d5b]at g2
 refine DF.grA g2 l2 fun T hT=> ?_
 have hfit:(L5 (x++[4,51])).Fits:=a2c (fun n hn=>by
  rcases List.mem_append.1 hn with hn|hn
  ·exact hx n hn
  ·simp at hn;rcases hn with rfl|rfl<;>simp[F5]) (by simp;omega)
 refine(show j6 Try.prog E w0 D2 [bD (x++[4,51])] T _ from a4G.use ?_)
 rw[show o8 [D.nilSlc, .nilSlc] [(0,1,iD l),(1,1,iD s)]=some [iD l,iD s]from rfl,agS,oD]
 refine(show j6 Try.prog E w0 u7 [moD (L5 (x++[4,51])), .int .i64 0, .int .i64 0,frD ⟨l,s⟩] T _ from(a3z hfit (by simp[X1]) hf).use ?_)
 have key:∀r,X5 (L5 (x++[4,51])) 0 0 ⟨l,s⟩=r→c5Z x l s e a b=if r.2≠e∨e≠0 then decide (r.2=e)&&decide (r.1=[]) else b2x r x.length a b:=fun r h=>by subst h;rfl
 have hlen:∀q∈(X5 (L5 (x++[4,51])) 0 0 ⟨l,s⟩).1,q.2.locals.length<2^50∧q.2.stack.length<2^50:=fun q hq=>by
  by_cases h0:(X5 (L5 (x++[4,51])) 0 0 ⟨l,s⟩).2=0
  ·obtain⟨_,r,hr,hm,i,y,_,_,hd,he⟩:=c7z h0
   rw[he]at hq
   obtain⟨t,_,rfl⟩:=List.mem_map.1 hq
   have hmay:(s.length:Int)≤r.stack:=by
    unfold b1Y at hm
    simp only[Bool.and_eq_true,decide_eq_true_eq]at hm
    exact hm.1.1.2
   have hst:r.stack=2:=by
    have:r∈(L5 (x++[4,51])).funcs:=List.mem_of_getElem? hr
    rcases List.mem_singleton.1 this with rfl
    rfl
   have h1:=d2H hd hmay
   have h2:=hf.l
   simp only at h1 h2 ⊢
   exact⟨by omega,by omega⟩
  ·rw[d0Y h0]at hq;cases hq
 generalize hr:X5 (L5 (x++[4,51])) 0 0 ⟨l,s⟩=r at hlen ⊢
 rw[key r hr]
 obtain⟨q,c⟩:=r
 unfold b7O
 simp only[exD,List.getElem?_cons_zero,List.getElem?_cons_succ,oD,a5M]
 by_cases c1:c=e
 case neg=>
  have e1:decide (c≠e)=true:=decide_eq_true c1
  simp only[e1,N6,t1,vdF,oD,P0,if_true,cdT,L1,decide_eq_false c1,t3,Bool.false_eq_true,if_false]
  refine d9.less hT (d9.here ⟨?_,rfl⟩)
  rw[if_pos (.inl (by simpa using c1))];simp
 have e1:decide (c≠e)=false:=decide_eq_false fun h=>h c1
 simp only[e1,N6,t2,vdT,oD,a5M,P0,Bool.false_eq_true,if_false]
 by_cases c2:e=0
 case neg=>
  have e2:decide (e≠0)=true:=decide_eq_true c2
  simp only[e2,cdT,L1,decide_eq_true c1,oD,N6,t4,vdT,c7l,P0,if_true]
  refine d9.less hT (d9.here ⟨?_,rfl⟩)
  rw[if_pos (.inr c2)]
  cases q with
  |nil=>simp
  |cons y z=>simp;omega
 have e2:decide (e≠0)=false:=decide_eq_false fun h=>h c2
 rw[if_neg (fun h=>by rcases h with h|h<;>exact h (by assumption))]
 simp only[e2,cdF,c7l,oD,L1]
 by_cases c3:(q.length:Int)=1
 case neg=>
  have:b2x (q,c) x.length a b=false:=by
   unfold b2x
   split
   ·rename_i z h;simp only at h;rw[h]at c3;exact absurd rfl c3
   ·rfl
  simp only[decide_eq_false c3,N6,t3,vdF,gdF,oD,P0,Bool.false_eq_true,if_false,wdU]
  exact d9.less hT (d9.here ⟨by rw[this],rfl⟩)
 obtain⟨⟨to,g⟩,rfl⟩:∃z,q=[z]:=List.length_eq_one_iff.1 (by omega)
 have hg:=hlen _ List.mem_cons_self
 have ei:p9 3 (b2c [(to,g)]) (.int .i64 0)=some (.elt (edR (to,g)) 0):=rfl
 have q0:∀T:b8,d0 T (.elt (edR (to,g)) 0)=some (.int .i64 to):=fun _=>rfl
 have q1:∀T:b8,d0 T (.elt (edR (to,g)) 1)=some (iD g.locals):=fun _=>rfl
 have q2:∀T:b8,d0 T (.elt (edR (to,g)) 2)=some (iD g.stack):=fun _=>rfl
 have lb:m9 (bD x)=some (.int .i64 x.length):=by simp[bD,A9]
 simp only[decide_eq_true c3,N6,t4,vdT,oD,ei,ofE,Nat.zero_add,Nat.add_zero,q0,lb,L1,P0,if_true]
 have hs:b2x ([(to,g)],c) x.length a b=(decide (to=(x.length:Int))&&decide (g.locals=a)&&decide (g.stack=b)):=rfl
 rw[hs]
 by_cases c4:to=(x.length:Int)
 case neg=>
  simp only[decide_eq_false c4,N6,t3,vdF,gdF,oD,P0,Bool.false_eq_true,if_false,wdU,Bool.false_and]
  exact d9.less hT (d9.here ⟨rfl,rfl⟩)
 simp only[decide_eq_true c4,N6,t4,vdT,oD,ei,ofE,Nat.zero_add,Nat.add_zero,q1,gdT,Bool.true_and]
 refine(a1P (by have:=hg.1;simp only at this;omega) (by omega)).use ?_
 simp only[oD,P0,if_true]
 by_cases c5:g.locals=a
 case neg=>
  simp only[decide_eq_false c5,N6,t3,vdF,gdF,oD,P0,Bool.false_eq_true,if_false,wdU,Bool.false_and]
  exact d9.less hT (d9.here ⟨rfl,rfl⟩)
 simp only[decide_eq_true c5,N6,t4,vdT,oD,ei,ofE,Nat.zero_add,Nat.add_zero,Nat.reduceAdd,q2,gdT,Bool.true_and]
 refine(a1P (by have:=hg.2;simp only at this;omega) (by omega)).use ?_
 simp only[oD,P0,if_true]
 exact d9.less hT (d9.here ⟨rfl,rfl⟩)
end
end
end Go.Proofs.Ytdkidgkiplcggaa.d
end
section
open Go.Proofs Go Go.Am
namespace Go.Proofs.Ytdkidgkiplcggaa.d
def A5:List (Nat×List Nat):=[]
def A3:List (Nat×List Nat):=[(6,[1,2]),(8,[1,2,3]),(10,[1,2,3,4]),(16,[1,2,3,4,5,7,8,9]),(22,[1,2,3,4,5,7,8,9,11,13,15]),(28,[1,2,3,4,7,8,9,11,13,15,17,19,20]),(34,[2,3,4,7,8,9,11,13,15,17,19,21,22,24,26])]
def A4:List (Nat×V5):=[]
noncomputable def a7u:Code:=(j9 [1,1,1,1,1,1,1,1,1,1,1,1,1,1,1,1,1] (Try.f10.body.getD .skip))
def a6H(E:i9)(w0:j7)(Q:D→b8→Prop):o7→List D→b8→Prop:=
 (F3 Try.prog Try.f10 Q)
def a1K(E:i9)(w0:j7)(Q:D→b8→Prop)(x2 x3 x4 x7 x8 x9 x11 x13 x15 x17 x19 x21 x22 x24 x26:D)(S:b8):Prop:=
 b7 (f9 .eql x7 (.int .i64 190)) fun v68=>
 b7 (d8 (b9 v68 true) (some x9)) fun v69=>
 b7 (d8 (b9 v68 true) (f9 .eql v69 (.int .i64 0))) fun v70=>
 b7 (o0 v68 v70 (.bool false)) fun v71=>
 b7 (d8 (b9 v71 true) (some x8)) fun v72=>
 b7 (d8 (b9 v71 true) (m9 v72)) fun v73=>
 b7 (d8 (b9 v71 true) (f9 .eql v73 (.int .i64 0))) fun v74=>
 b7 (o0 v71 v74 (.bool false)) fun v75=>
 b7 (d8 (b9 v75 true) (some x11)) fun v76=>
 b7 (d8 (b9 v75 true) (f9 .eql v76 (.int .i64 210))) fun v77=>
 b7 (o0 v75 v77 (.bool false)) fun v78=>
 b7 (d8 (b9 v78 true) (some x13)) fun v79=>
 b7 (d8 (b9 v78 true) (f9 .eql v79 (.int .i64 211))) fun v80=>
 b7 (o0 v78 v80 (.bool false)) fun v81=>
 b7 (d8 (b9 v81 true) (some x15)) fun v82=>
 b7 (d8 (b9 v81 true) (f9 .eql v82 (.int .i64 4))) fun v83=>
 b7 (o0 v81 v83 (.bool false)) fun v84=>
 b7 (d8 (b9 v84 true) (some x17)) fun v85=>
 b7 (d8 (b9 v84 true) (f9 .eql v85 (.int .i64 4))) fun v86=>
 b7 (o0 v84 v86 (.bool false)) fun v87=>
 b7 (d8 (b9 v87 true) (some x19)) fun v88=>
 b7 (d8 (b9 v87 true) (f9 .eql v88 (.int .i64 190))) fun v89=>
 b7 (o0 v87 v89 (.bool false)) fun v90=>
 b7 (d8 (b9 v90 true) (some x22)) fun v91=>
 b7 (d8 (b9 v90 true) (f9 .eql v91 (.int .i64 0))) fun v92=>
 b7 (o0 v90 v92 (.bool false)) fun v93=>
 b7 (d8 (b9 v93 true) (some x21)) fun v94=>
 b7 (d8 (b9 v93 true) (m9 v94)) fun v95=>
 b7 (d8 (b9 v93 true) (f9 .eql v95 (.int .i64 2))) fun v96=>
 b7 (o0 v93 v96 (.bool false)) fun v97=>
 b7 (d8 (b9 v97 true) (some x21)) fun v98=>
 b7 (d8 (b9 v97 true) (p9 3 v98 (.int .i64 0))) fun v99=>
 b7 (d8 (b9 v97 true) (j5 0 v99)) fun v100=>
 b7 (d8 (b9 v97 true) (d0 S v100)) fun v101=>
 b7 (d8 (b9 v97 true) (f9 .eql v101 (.int .i64 0))) fun v102=>
 b7 (o0 v97 v102 (.bool false)) fun v103=>
 b7 (d8 (b9 v103 true) (some x21)) fun v104=>
 b7 (d8 (b9 v103 true) (p9 3 v104 (.int .i64 1))) fun v105=>
 b7 (d8 (b9 v103 true) (j5 0 v105)) fun v106=>
 b7 (d8 (b9 v103 true) (d0 S v106)) fun v107=>
 b7 (d8 (b9 v103 true) (f9 .eql v107 (.int .i64 6))) fun v108=>
 b7 (o0 v103 v108 (.bool false)) fun v109=>
 b7 (d8 (b9 v109 true) (some x21)) fun v110=>
 b7 (d8 (b9 v109 true) (p9 3 v110 (.int .i64 0))) fun v111=>
 b7 (d8 (b9 v109 true) (j5 1 v111)) fun v112=>
 b7 (d8 (b9 v109 true) (j5 1 v112)) fun v113=>
 b7 (d8 (b9 v109 true) (d0 S v113)) fun v114=>
 b7 (d8 (b9 v109 true) (m9 v114)) fun v115=>
 b7 (d8 (b9 v109 true) (f9 .eql v115 (.int .i64 0))) fun v116=>
 b7 (o0 v109 v116 (.bool false)) fun v117=>
 b7 (d8 (b9 v117 true) (some x24)) fun v118=>
 b7 (d8 (b9 v117 true) (f9 .eql v118 (.int .i64 190))) fun v119=>
 b7 (o0 v117 v119 (.bool false)) fun v120=>
 b7 (d8 (b9 v120 true) (some x26)) fun v121=>
 b7 (d8 (b9 v120 true) (f9 .eql v121 (.int .i64 130))) fun v122=>
 b7 (o0 v120 v122 (.bool false)) fun v123=>
 b7 (d8 (b9 x2 true) (some x3)) fun v124=>
 b7 (o0 x2 v124 (.bool false)) fun v125=>
 b7 (d8 (b9 v125 true) (some x4)) fun v126=>
 b7 (o0 v125 v126 (.bool false)) fun v127=>
 b7 (d8 (b9 v127 true) (some v123)) fun v128=>
 b7 (o0 v127 v128 (.bool false)) fun v129=>
 p8 (b9 v129 true) (fun K=>j6 Try.prog E w0 a7p [] S K) S fun v130 S131=>
 b7 (o0 v129 v130 (.bool false)) fun v132=>
 Q v132 S131
def U1(E:i9)(w0:j7)(Q:D→b8→Prop)(x2 x3 x4 x7 x8 x9 x11 x13 x15 x17 x19 x21 x22 x24 x26:D)(S:b8):Prop:=j3 Try.prog E w0 a7u (l9 297 [2,3,4,7,8,9,11,13,15,17,19,21,22,24,26] [x2,x3,x4,x7,x8,x9,x11,x13,x15,x17,x19,x21,x22,x24,x26]) S (a6H E w0 Q)
theorem a5b{E:i9}{w0:j7}{Q:D→b8→Prop}{x2 x3 x4 x7 x8 x9 x11 x13 x15 x17 x19 x21 x22 x24 x26:D}{S:b8}(h:a1K E w0 Q x2 x3 x4 x7 x8 x9 x11 x13 x15 x17 x19 x21 x22 x24 x26 S):U1 E w0 Q x2 x3 x4 x7 x8 x9 x11 x13 x15 x17 x19 x21 x22 x24 x26 S:=j0 A5 A3 A4 mixed (by kernel_rfl) h
noncomputable def a7S:Code:=(j9 [1,1,1,1,1,1,1,1,1,1,1,1,1,1] (Try.f10.body.getD .skip))
def a6I(E:i9)(w0:j7)(Q:D→b8→Prop):o7→List D→b8→Prop:=
 (F3 Try.prog Try.f10 Q)
def a1G(E:i9)(w0:j7)(Q:D→b8→Prop)(x1 x2 x3 x4 x7 x8 x9 x11 x13 x15 x17 x19 x20:D)(S:b8):Prop:=
 j6 Try.prog E w0 D2 [x20] S fun v50 S51=>
 m8 S51 1 (j1 1 (List.replicate 1 [(.int .i64 0)]) [(0,(.int .i64 4))]) 1 fun v52 S53=>
 b7 (C3 (o8 [.nilSlc, .nilSlc] [(0,1,x1),(1,1,v52)])) fun v54=>
 j6 Try.prog E w0 u7 [v50,(.int .i64 0),(.int .i64 1),v54] S53 fun v55 S56=>
 b7 (j2 v55 0) fun v57=>
 b7 (j2 v55 1) fun v58=>
 m8 S56 1 (j1 1 (List.replicate 5 [(.int .u8 0)]) [(0,(.int .u8 46)),(1,(.int .u8 1)),(2,(.int .u8 0)),(3,(.int .u8 0)),(4,(.int .u8 0))]) 5 fun v59 S60=>
 j6 Try.prog E w0 D2 [v59] S60 fun v61 S62=>
 b7 (C3 (o8 [.nilSlc, .nilSlc] [(0,1,x1)])) fun v63=>
 j6 Try.prog E w0 u7 [v61,(.int .i64 0),(.int .i64 0),v63] S62 fun v64 S65=>
 b7 (j2 v64 0) fun v66=>
 b7 (j2 v64 1) fun v67=>
 m8 S65 1 (j1 1 (List.replicate 1 [(.int .u8 0)]) [(0,(.int .u8 0))]) 1 fun v133 S134=>
 b7 (C3 (o8 [(.str []), .nilSlc, .nilSlc,(.int .i64 0),(.int .i64 0), .nilSlc] [(5,1,v133)])) fun v135=>
 m8 S134 6 (j1 6 (List.replicate 1 [(.str []), .nilSlc, .nilSlc,(.int .i64 0),(.int .i64 0), .nilSlc]) [(0,v135)]) 1 fun v136 S137=>
 b7 (C3 (o8 [.nilSlc, .nilSlc, .nilSlc] [(2,1,v136)])) fun v138=>
 j6 Try.prog E w0 D9 [v138,(.int .i64 0)] S137 fun v139 S140=>
 b7 (j2 v139 0) fun v141=>
 b7 (j2 v139 1) fun v142=>
 j8 S140 [.nilSlc, .nilSlc] fun v143 S144=>
 i7 S144 2 v143 v141 fun v145 S146=>
 U1 E w0 Q x2 x3 x4 x7 x8 x9 x11 x13 x15 x17 x19 v57 v58 v67 v142 S146
def U5(E:i9)(w0:j7)(Q:D→b8→Prop)(x1 x2 x3 x4 x7 x8 x9 x11 x13 x15 x17 x19 x20:D)(S:b8):Prop:=j3 Try.prog E w0 a7S (l9 297 [1,2,3,4,7,8,9,11,13,15,17,19,20] [x1,x2,x3,x4,x7,x8,x9,x11,x13,x15,x17,x19,x20]) S (a6I E w0 Q)
theorem a5c{E:i9}{w0:j7}{Q:D→b8→Prop}{x1 x2 x3 x4 x7 x8 x9 x11 x13 x15 x17 x19 x20:D}{S:b8}(h:a1G E w0 Q x1 x2 x3 x4 x7 x8 x9 x11 x13 x15 x17 x19 x20 S):U5 E w0 Q x1 x2 x3 x4 x7 x8 x9 x11 x13 x15 x17 x19 x20 S:=j0 A5 A3 A4 mixed (by kernel_rfl) h
noncomputable def a7N:Code:=(j9 [1,1,1,1,1,1,1,1,1,1,1] (Try.f10.body.getD .skip))
def a6Q(E:i9)(w0:j7)(Q:D→b8→Prop):o7→List D→b8→Prop:=
 (F3 Try.prog Try.f10 Q)
def a1C(E:i9)(w0:j7)(Q:D→b8→Prop)(x1 x2 x3 x4 x5 x7 x8 x9 x11 x13 x15:D)(S:b8):Prop:=
 b7 (i4 S 3 x5) fun v32=>
 j6 Try.prog E w0 D9 [v32,(.int .i64 (-1))] S fun v33 S34=>
 b7 (j2 v33 0) fun v35=>
 b7 (j2 v33 1) fun v36=>
 j8 S34 [.nilSlc, .nilSlc] fun v37 S38=>
 i7 S38 2 v37 v35 fun v39 S40=>
 m8 S40 1 (j1 1 (List.replicate 1 [(.int .u8 0)]) [(0,(.int .u8 4))]) 1 fun v41 S42=>
 j6 Try.prog E w0 D2 [v41] S42 fun v43 S44=>
 b7 (C3 (o8 [.nilSlc, .nilSlc] [(0,1,x1)])) fun v45=>
 j6 Try.prog E w0 u7 [v43,(.int .i64 0),(.int .i64 0),v45] S44 fun v46 S47=>
 b7 (j2 v46 0) fun v48=>
 b7 (j2 v46 1) fun v49=>
 m8 S47 1 (j1 1 (List.replicate 7 [(.int .u8 0)]) [(0,(.int .u8 4)),(1,(.int .u8 47)),(2,(.int .u8 0)),(3,(.int .u8 0)),(4,(.int .u8 0)),(5,(.int .u8 0)),(6,(.int .u8 51))]) 7 fun v147 S148=>
 U5 E w0 Q x1 x2 x3 x4 x7 x8 x9 x11 x13 x15 v36 v49 v147 S148
def R4(E:i9)(w0:j7)(Q:D→b8→Prop)(x1 x2 x3 x4 x5 x7 x8 x9 x11 x13 x15:D)(S:b8):Prop:=j3 Try.prog E w0 a7N (l9 297 [1,2,3,4,5,7,8,9,11,13,15] [x1,x2,x3,x4,x5,x7,x8,x9,x11,x13,x15]) S (a6Q E w0 Q)
theorem a5p{E:i9}{w0:j7}{Q:D→b8→Prop}{x1 x2 x3 x4 x5 x7 x8 x9 x11 x13 x15:D}{S:b8}(h:a1C E w0 Q x1 x2 x3 x4 x5 x7 x8 x9 x11 x13 x15 S):R4 E w0 Q x1 x2 x3 x4 x5 x7 x8 x9 x11 x13 x15 S:=j0 A5 A3 A4 mixed (by kernel_rfl) h
noncomputable def a7x:Code:=(j9 [1,1,1,1,1,1,1,1] (Try.f10.body.getD .skip))
def a6J(E:i9)(w0:j7)(Q:D→b8→Prop):o7→List D→b8→Prop:=
 (F3 Try.prog Try.f10 Q)
def a1I(E:i9)(w0:j7)(Q:D→b8→Prop)(x1 x2 x3 x4 x5 x7 x8 x9:D)(S:b8):Prop:=
 b7 (i4 S 3 x5) fun v16=>
 m8 S 1 (j1 1 (List.replicate 2 [(.int .i64 0)]) [(0,(.int .i64 4)),(1,(.int .i64 4))]) 2 fun v17 S18=>
 b7 (C3 (o8 [.nilSlc, .nilSlc] [(0,1,x1),(1,1,v17)])) fun v19=>
 j6 Try.prog E w0 u7 [v16,(.int .i64 0),(.int .i64 1),v19] S18 fun v20 S21=>
 b7 (j2 v20 0) fun v22=>
 b7 (j2 v20 1) fun v23=>
 b7 (i4 S21 3 x5) fun v24=>
 m8 S21 1 (j1 1 (List.replicate 1 [(.int .i64 0)]) [(0,(.int .i64 5))]) 1 fun v25 S26=>
 b7 (C3 (o8 [.nilSlc, .nilSlc] [(0,1,x1),(1,1,v25)])) fun v27=>
 j6 Try.prog E w0 u7 [v24,(.int .i64 0),(.int .i64 1),v27] S26 fun v28 S29=>
 b7 (j2 v28 0) fun v30=>
 b7 (j2 v28 1) fun v31=>
 b7 (i4 S29 3 x5) fun v149=>
 b7 (C3 (o8 [.nilSlc, .nilSlc] [(0,1,x1)])) fun v150=>
 j6 Try.prog E w0 u7 [v149,(.int .i64 1),(.int .i64 0),v150] S29 fun v151 S152=>
 b7 (j2 v151 0) fun v153=>
 b7 (j2 v151 1) fun v154=>
 R4 E w0 Q x1 x2 x3 x4 x5 x7 x8 x9 v23 v31 v154 S152
def U4(E:i9)(w0:j7)(Q:D→b8→Prop)(x1 x2 x3 x4 x5 x7 x8 x9:D)(S:b8):Prop:=j3 Try.prog E w0 a7x (l9 297 [1,2,3,4,5,7,8,9] [x1,x2,x3,x4,x5,x7,x8,x9]) S (a6J E w0 Q)
theorem a5k{E:i9}{w0:j7}{Q:D→b8→Prop}{x1 x2 x3 x4 x5 x7 x8 x9:D}{S:b8}(h:a1I E w0 Q x1 x2 x3 x4 x5 x7 x8 x9 S):U4 E w0 Q x1 x2 x3 x4 x5 x7 x8 x9 S:=j0 A5 A3 A4 mixed (by kernel_rfl) h
noncomputable def a7L:Code:=(j9 [1,1,1,1,1] (Try.f10.body.getD .skip))
def a6S(E:i9)(w0:j7)(Q:D→b8→Prop):o7→List D→b8→Prop:=
 (F3 Try.prog Try.f10 Q)
def a1E(E:i9)(w0:j7)(Q:D→b8→Prop)(x1 x2 x3 x4:D)(S:b8):Prop:=
 m8 S 1 (j1 1 (List.replicate 2 [(.int .u8 0)]) [(0,(.int .u8 4)),(1,(.int .u8 51))]) 2 fun v2 S3=>
 j6 Try.prog E w0 D2 [v2] S3 fun v4 S5=>
 j8 S5 [.nilSlc, .nilSlc, .nilSlc] fun v6 S7=>
 i7 S7 3 v6 v4 fun v8 S9=>
 b7 (i4 S9 3 v6) fun v10=>
 b7 (C3 (o8 [.nilSlc, .nilSlc] [(0,1,x1)])) fun v11=>
 j6 Try.prog E w0 u7 [v10,(.int .i64 0),(.int .i64 2),v11] S9 fun v12 S13=>
 b7 (j2 v12 0) fun v14=>
 b7 (j2 v12 1) fun v15=>
 b7 (i4 S13 3 v6) fun v155=>
 m8 S13 1 (j1 1 (List.replicate 1 [(.int .i64 0)]) [(0,(.int .i64 4))]) 1 fun v156 S157=>
 b7 (C3 (o8 [.nilSlc, .nilSlc] [(0,1,x1),(1,1,v156)])) fun v158=>
 j6 Try.prog E w0 u7 [v155,(.int .i64 0),(.int .i64 1),v158] S157 fun v159 S160=>
 b7 (j2 v159 0) fun v161=>
 b7 (j2 v159 1) fun v162=>
 U4 E w0 Q x1 x2 x3 x4 v6 v15 v161 v162 S160
def R5(E:i9)(w0:j7)(Q:D→b8→Prop)(x1 x2 x3 x4:D)(S:b8):Prop:=j3 Try.prog E w0 a7L (l9 297 [1,2,3,4] [x1,x2,x3,x4]) S (a6S E w0 Q)
theorem a5n{E:i9}{w0:j7}{Q:D→b8→Prop}{x1 x2 x3 x4:D}{S:b8}(h:a1E E w0 Q x1 x2 x3 x4 S):R5 E w0 Q x1 x2 x3 x4 S:=j0 A5 A3 A4 mixed (by kernel_rfl) h
noncomputable def a8i:Code:=(j9 [1,1,1,1] (Try.f10.body.getD .skip))
def a7P(E:i9)(w0:j7)(Q:D→b8→Prop):o7→List D→b8→Prop:=
 (F3 Try.prog Try.f10 Q)
def a1Z(E:i9)(w0:j7)(Q:D→b8→Prop)(x1 x2 x3:D)(S:b8):Prop:=
 m8 S 1 (j1 1 (List.replicate 1 [(.int .u8 0)]) [(0,(.int .u8 4))]) 1 fun v163 S164=>
 m8 S164 1 (j1 1 (List.replicate 2 [(.int .i64 0)]) [(0,(.int .i64 1)),(1,(.int .i64 5))]) 2 fun v165 S166=>
 j6 Try.prog E w0 s9 [v163,v165, .nilSlc,(.int .i64 2), .nilSlc, .nilSlc] S166 fun v167 S168=>
 p8 (b9 v167 true) (fun K=>m8 S168 1 (j1 1 (List.replicate 1 [(.int .u8 0)]) [(0,(.int .u8 4))]) 1 K) S168 fun v169 S170=>
 b7 (d8 (b9 v167 true) (some x1)) fun v171=>
 p8 (b9 v167 true) (fun K=>m8 S170 1 (j1 1 (List.replicate 3 [(.int .i64 0)]) [(0,(.int .i64 1)),(1,(.int .i64 1)),(2,(.int .i64 1))]) 3 K) S170 fun v172 S173=>
 p8 (b9 v167 true) (fun K=>j6 Try.prog E w0 s9 [v169,v171,v172,(.int .i64 2), .nilSlc, .nilSlc] S173 K) S173 fun v174 S175=>
 b7 (o0 v167 v174 (.bool false)) fun v176=>
 p8 (b9 v176 true) (fun K=>m8 S175 1 (j1 1 (List.replicate 1 [(.int .u8 0)]) [(0,(.int .u8 4))]) 1 K) S175 fun v177 S178=>
 p8 (b9 v176 true) (fun K=>m8 S178 1 (j1 1 (List.replicate 3 [(.int .i64 0)]) [(0,(.int .i64 1)),(1,(.int .i64 5)),(2,(.int .i64 16))]) 3 K) S178 fun v179 S180=>
 p8 (b9 v176 true) (fun K=>j6 Try.prog E w0 s9 [v177,v179, .nilSlc,(.int .i64 2), .nilSlc, .nilSlc] S180 K) S180 fun v181 S182=>
 b7 (o0 v176 v181 (.bool false)) fun v183=>
 p8 (b9 v183 true) (fun K=>m8 S182 1 (j1 1 (List.replicate 1 [(.int .u8 0)]) [(0,(.int .u8 4))]) 1 K) S182 fun v184 S185=>
 p8 (b9 v183 true) (fun K=>m8 S185 1 (j1 1 (List.replicate 3 [(.int .i64 0)]) [(0,(.int .i64 1)),(1,(.int .i64 5)),(2,(.int .i64 6))]) 3 K) S185 fun v186 S187=>
 p8 (b9 v183 true) (fun K=>j6 Try.prog E w0 s9 [v184,v186, .nilSlc,(.int .i64 2), .nilSlc, .nilSlc] S187 K) S187 fun v188 S189=>
 b7 (o0 v183 v188 (.bool false)) fun v190=>
 p8 (b9 v190 true) (fun K=>m8 S189 1 (j1 1 (List.replicate 1 [(.int .u8 0)]) [(0,(.int .u8 4))]) 1 K) S189 fun v191 S192=>
 b7 (d8 (b9 v190 true) (some x1)) fun v193=>
 p8 (b9 v190 true) (fun K=>m8 S192 1 (j1 1 (List.replicate 1 [(.int .i64 0)]) [(0,(.int .i64 (-1)))]) 1 K) S192 fun v194 S195=>
 p8 (b9 v190 true) (fun K=>j6 Try.prog E w0 s9 [v191,v193,v194,(.int .i64 2), .nilSlc, .nilSlc] S195 K) S195 fun v196 S197=>
 b7 (o0 v190 v196 (.bool false)) fun v198=>
 R5 E w0 Q x1 x2 x3 v198 S197
def W5(E:i9)(w0:j7)(Q:D→b8→Prop)(x1 x2 x3:D)(S:b8):Prop:=j3 Try.prog E w0 a8i (l9 297 [1,2,3] [x1,x2,x3]) S (a7P E w0 Q)
theorem a5B{E:i9}{w0:j7}{Q:D→b8→Prop}{x1 x2 x3:D}{S:b8}(h:a1Z E w0 Q x1 x2 x3 S):W5 E w0 Q x1 x2 x3 S:=j0 A5 A3 A4 mixed (by kernel_rfl) h
noncomputable def a8z:Code:=(j9 [1,1,1] (Try.f10.body.getD .skip))
def a7w(E:i9)(w0:j7)(Q:D→b8→Prop):o7→List D→b8→Prop:=
 (F3 Try.prog Try.f10 Q)
def a1Y(E:i9)(w0:j7)(Q:D→b8→Prop)(x1 x2:D)(S:b8):Prop:=
 m8 S 1 (j1 1 (List.replicate 1 [(.int .u8 0)]) [(0,(.int .u8 10))]) 1 fun v199 S200=>
 m8 S200 1 (j1 1 (List.replicate 2 [(.int .i64 0)]) [(0,(.int .i64 4)),(1,(.int .i64 4))]) 2 fun v201 S202=>
 j6 Try.prog E w0 s9 [v199,x1,v201,(.int .i64 210), .nilSlc, .nilSlc] S202 fun v203 S204=>
 p8 (b9 v203 true) (fun K=>m8 S204 1 (j1 1 (List.replicate 1 [(.int .u8 0)]) [(0,(.int .u8 9))]) 1 K) S204 fun v205 S206=>
 b7 (d8 (b9 v203 true) (some x1)) fun v207=>
 p8 (b9 v203 true) (fun K=>m8 S206 1 (j1 1 (List.replicate 1 [(.int .i64 0)]) [(0,(.int .i64 0))]) 1 K) S206 fun v208 S209=>
 b7 (d8 (b9 v203 true) (some x1)) fun v210=>
 p8 (b9 v203 true) (fun K=>j6 Try.prog E w0 s9 [v205,v207,v208,(.int .i64 0),v210, .nilSlc] S209 K) S209 fun v211 S212=>
 b7 (o0 v203 v211 (.bool false)) fun v213=>
 p8 (b9 v213 true) (fun K=>m8 S212 1 (j1 1 (List.replicate 1 [(.int .u8 0)]) [(0,(.int .u8 10))]) 1 K) S212 fun v214 S215=>
 b7 (d8 (b9 v213 true) (some x1)) fun v216=>
 p8 (b9 v213 true) (fun K=>m8 S215 1 (j1 1 (List.replicate 1 [(.int .i64 0)]) [(0,(.int .i64 0))]) 1 K) S215 fun v217 S218=>
 p8 (b9 v213 true) (fun K=>j6 Try.prog E w0 s9 [v214,v216,v217,(.int .i64 211), .nilSlc, .nilSlc] S218 K) S218 fun v219 S220=>
 b7 (o0 v213 v219 (.bool false)) fun v221=>
 p8 (b9 v221 true) (fun K=>m8 S220 1 (j1 1 (List.replicate 3 [(.int .u8 0)]) [(0,(.int .u8 8)),(1,(.int .u8 0)),(2,(.int .u8 0))]) 3 K) S220 fun v222 S223=>
 b7 (d8 (b9 v221 true) (some x1)) fun v224=>
 p8 (b9 v221 true) (fun K=>m8 S223 1 (j1 1 (List.replicate 1 [(.int .i64 0)]) [(0,(.int .i64 0))]) 1 K) S223 fun v225 S226=>
 p8 (b9 v221 true) (fun K=>j6 Try.prog E w0 s9 [v222,v224,v225,(.int .i64 211), .nilSlc, .nilSlc] S226 K) S226 fun v227 S228=>
 b7 (o0 v221 v227 (.bool false)) fun v229=>
 p8 (b9 v229 true) (fun K=>m8 S228 1 (j1 1 (List.replicate 3 [(.int .u8 0)]) [(0,(.int .u8 7)),(1,(.int .u8 0)),(2,(.int .u8 0))]) 3 K) S228 fun v230 S231=>
 b7 (d8 (b9 v229 true) (some x1)) fun v232=>
 p8 (b9 v229 true) (fun K=>m8 S231 1 (j1 1 (List.replicate 2 [(.int .i64 0)]) [(0,(.int .i64 4)),(1,(.int .i64 4))]) 2 K) S231 fun v233 S234=>
 p8 (b9 v229 true) (fun K=>j6 Try.prog E w0 s9 [v230,v232,v233,(.int .i64 210), .nilSlc, .nilSlc] S234 K) S234 fun v235 S236=>
 b7 (o0 v229 v235 (.bool false)) fun v237=>
 p8 (b9 v237 true) (fun K=>m8 S236 1 (j1 1 (List.replicate 1 [(.int .u8 0)]) [(0,(.int .u8 10))]) 1 K) S236 fun v238 S239=>
 b7 (d8 (b9 v237 true) (some x1)) fun v240=>
 p8 (b9 v237 true) (fun K=>m8 S239 1 (j1 1 (List.replicate 1 [(.int .i64 0)]) [(0,(.int .i64 5))]) 1 K) S239 fun v241 S242=>
 b7 (d8 (b9 v237 true) (some x1)) fun v243=>
 p8 (b9 v237 true) (fun K=>m8 S242 1 (j1 1 (List.replicate 2 [(.int .i64 0)]) [(0,(.int .i64 5)),(1,(.int .i64 5))]) 2 K) S242 fun v244 S245=>
 p8 (b9 v237 true) (fun K=>j6 Try.prog E w0 s9 [v238,v240,v241,(.int .i64 0),v243,v244] S245 K) S245 fun v246 S247=>
 b7 (o0 v237 v246 (.bool false)) fun v248=>
 p8 (b9 v248 true) (fun K=>m8 S247 1 (j1 1 (List.replicate 1 [(.int .u8 0)]) [(0,(.int .u8 9))]) 1 K) S247 fun v249 S250=>
 b7 (d8 (b9 v248 true) (some x1)) fun v251=>
 p8 (b9 v248 true) (fun K=>j6 Try.prog E w0 s9 [v249,v251, .nilSlc,(.int .i64 210), .nilSlc, .nilSlc] S250 K) S250 fun v252 S253=>
 b7 (o0 v248 v252 (.bool false)) fun v254=>
 W5 E w0 Q x1 x2 v254 S253
def W4(E:i9)(w0:j7)(Q:D→b8→Prop)(x1 x2:D)(S:b8):Prop:=j3 Try.prog E w0 a8z (l9 297 [1,2] [x1,x2]) S (a7w E w0 Q)
theorem a5G{E:i9}{w0:j7}{Q:D→b8→Prop}{x1 x2:D}{S:b8}(h:a1Y E w0 Q x1 x2 S):W4 E w0 Q x1 x2 S:=j0 A5 A3 A4 mixed (by kernel_rfl) h
def a3o(E:i9)(w0:j7)(Q:D→b8→Prop)(S:b8):Prop:=
 m8 S 1 (j1 1 (List.replicate 3 [(.int .i64 0)]) [(0,(.int .i64 1)),(1,(.int .i64 5)),(2,(.int .i64 0))]) 3 fun v0 S1=>
 m8 S1 1 (j1 1 (List.replicate 3 [(.int .u8 0)]) [(0,(.int .u8 7)),(1,(.int .u8 1)),(2,(.int .u8 0))]) 3 fun v255 S256=>
 m8 S256 1 (j1 1 (List.replicate 1 [(.int .i64 0)]) [(0,(.int .i64 5))]) 1 fun v257 S258=>
 j6 Try.prog E w0 s9 [v255,v0, .nilSlc,(.int .i64 0),v0,v257] S258 fun v259 S260=>
 p8 (b9 v259 true) (fun K=>m8 S260 1 (j1 1 (List.replicate 3 [(.int .u8 0)]) [(0,(.int .u8 7)),(1,(.int .u8 2)),(2,(.int .u8 0))]) 3 K) S260 fun v261 S262=>
 b7 (d8 (b9 v259 true) (some v0)) fun v263=>
 p8 (b9 v259 true) (fun K=>j6 Try.prog E w0 s9 [v261,v263, .nilSlc,(.int .i64 212), .nilSlc, .nilSlc] S262 K) S262 fun v264 S265=>
 b7 (o0 v259 v264 (.bool false)) fun v266=>
 p8 (b9 v266 true) (fun K=>m8 S265 1 (j1 1 (List.replicate 3 [(.int .u8 0)]) [(0,(.int .u8 8)),(1,(.int .u8 2)),(2,(.int .u8 0))]) 3 K) S265 fun v267 S268=>
 b7 (d8 (b9 v266 true) (some v0)) fun v269=>
 p8 (b9 v266 true) (fun K=>m8 S268 1 (j1 1 (List.replicate 2 [(.int .i64 0)]) [(0,(.int .i64 4)),(1,(.int .i64 2))]) 2 K) S268 fun v270 S271=>
 p8 (b9 v266 true) (fun K=>m8 S271 1 (j1 1 (List.replicate 3 [(.int .i64 0)]) [(0,(.int .i64 1)),(1,(.int .i64 5)),(2,(.int .i64 2))]) 3 K) S271 fun v272 S273=>
 p8 (b9 v266 true) (fun K=>m8 S273 1 (j1 1 (List.replicate 1 [(.int .i64 0)]) [(0,(.int .i64 4))]) 1 K) S273 fun v274 S275=>
 p8 (b9 v266 true) (fun K=>j6 Try.prog E w0 s9 [v267,v269,v270,(.int .i64 0),v272,v274] S275 K) S275 fun v276 S277=>
 b7 (o0 v266 v276 (.bool false)) fun v278=>
 p8 (b9 v278 true) (fun K=>m8 S277 1 (j1 1 (List.replicate 2 [(.int .u8 0)]) [(0,(.int .u8 11)),(1,(.int .u8 1))]) 2 K) S277 fun v279 S280=>
 b7 (d8 (b9 v278 true) (some v0)) fun v281=>
 p8 (b9 v278 true) (fun K=>m8 S280 1 (j1 1 (List.replicate 1 [(.int .i64 0)]) [(0,(.int .i64 1))]) 1 K) S280 fun v282 S283=>
 p8 (b9 v278 true) (fun K=>j6 Try.prog E w0 s9 [v279,v281,v282,(.int .i64 210), .nilSlc, .nilSlc] S283 K) S283 fun v284 S285=>
 b7 (o0 v278 v284 (.bool false)) fun v286=>
 p8 (b9 v286 true) (fun K=>m8 S285 1 (j1 1 (List.replicate 2 [(.int .u8 0)]) [(0,(.int .u8 11)),(1,(.int .u8 1))]) 2 K) S285 fun v287 S288=>
 b7 (d8 (b9 v286 true) (some v0)) fun v289=>
 p8 (b9 v286 true) (fun K=>m8 S288 1 (j1 1 (List.replicate 2 [(.int .i64 0)]) [(0,(.int .i64 1)),(1,(.int .i64 5))]) 2 K) S288 fun v290 S291=>
 p8 (b9 v286 true) (fun K=>j6 Try.prog E w0 s9 [v287,v289,v290,(.int .i64 211), .nilSlc, .nilSlc] S291 K) S291 fun v292 S293=>
 b7 (o0 v286 v292 (.bool false)) fun v294=>
 p8 (b9 v294 true) (fun K=>m8 S293 1 (j1 1 (List.replicate 2 [(.int .u8 0)]) [(0,(.int .u8 11)),(1,(.int .u8 1))]) 2 K) S293 fun v295 S296=>
 b7 (d8 (b9 v294 true) (some v0)) fun v297=>
 p8 (b9 v294 true) (fun K=>m8 S296 1 (j1 1 (List.replicate 2 [(.int .i64 0)]) [(0,(.int .i64 1)),(1,(.int .i64 1))]) 2 K) S296 fun v298 S299=>
 b7 (d8 (b9 v294 true) (some v0)) fun v300=>
 p8 (b9 v294 true) (fun K=>m8 S299 1 (j1 1 (List.replicate 1 [(.int .i64 0)]) [(0,(.int .i64 1))]) 1 K) S299 fun v301 S302=>
 p8 (b9 v294 true) (fun K=>j6 Try.prog E w0 s9 [v295,v297,v298,(.int .i64 0),v300,v301] S302 K) S302 fun v303 S304=>
 b7 (o0 v294 v303 (.bool false)) fun v305=>
 W4 E w0 Q v0 v305 S304
theorem a7y{E:i9}{w0:j7}{Q:D→b8→Prop}{S:b8}(h:a3o E w0 (d9 E Q) S):j6 Try.prog E w0 a3h [] S Q:=
 j4 A5 A3 A4 (fn:=Try.f10) (c:=Try.f10.body.getD .skip) mixed Try.func10 (by kernel_rfl) (by kernel_rfl) h
end Go.Proofs.Ytdkidgkiplcggaa.d
end
