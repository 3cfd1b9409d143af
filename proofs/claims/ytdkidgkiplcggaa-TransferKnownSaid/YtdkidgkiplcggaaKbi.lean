/-
  TransferKnownSaid: part Kbi of its proof.
-/
import Derived.Test.YtdkidgkiplcggaaKbh
import Derived.Test.YtdkidgkiplcggaaKal
import Derived.ChangeSlices
import Derived.Carry
import Derived.Test.YtdkidgkiplcggaaKau
import Derived.SizedLaws
set_option linter.unusedVariables false
set_option linter.unusedSimpArgs false
set_option maxRecDepth 100000
section
open Go.Proofs Go Go.Am Go.Op
namespace Go.Proofs.Ytdkidgkiplcggaa.d
set_option linter.unusedSectionVars false
theorem Wk.lst1{row row':List D}{sz:Nat}(w:WkL row row')(hl:row.length=row'.length):Wk (.lst [row] sz) (.lst [row'] sz):=fun E R v h=>by
 simp only[Rp,a1n]at h ⊢
 rcases h with ⟨h,_⟩|⟨o,j,cap,ex,z,h1,h2,h3,h4,h5⟩
 ·cases h
 ·refine .inr ⟨o,j,cap,ex,z,h1,h2,h3,fun r hr=> ?_, ?_⟩
  ·rw[List.mem_singleton.1 hr, ←hl];exact h4 _ List.mem_cons_self
  ·rcases h5 with h|⟨all,a,⟨vs,ws,e,b,c⟩,d⟩
   ·cases h
   ·exact .inr ⟨all,a,⟨vs,ws,e,w.ok b,c⟩,d⟩
theorem D1{s:(D→b8→Prop)→Prop}{S:b8}{K:D→b8→Prop}(h:s K):p8 (b9 (.bool true) true) s S K:=h
theorem a4W{a:D}{K:D→Prop}(h:K a):b7 (d8 (b9 (.bool true) true) (some a)) K:=h
theorem a6k{a b:D}{K:D→Prop}(h:K a):b7 (o0 (.bool true) a b) K:=h
theorem exT{l:List D}{a b:D}{K:D→Prop}(h:K a):b7 (j2 (.tup [a,b]) 0) K:=h
theorem exU{l:List D}{a b:D}{K:D→Prop}(h:K b):b7 (j2 (.tup [a,b]) 1) K:=h
theorem a0b{l:List Int}{r:Option (List (List D))}{S:b8}(hr:r=some (iC l)){K:D→b8→Prop}(h:K (iD l) S):m8 S 1 r l.length K:=by
 subst hr
 exact C9 (by rw[s6]) h
theorem a1e{l:List Int}{r:Option (List (List D))}{S:b8}(hr:r=some (A9 (l.map (D.int .u8)))){K:D→b8→Prop}(h:K (bD l) S):m8 S 1 r l.length K:=by
 subst hr
 exact C9 (by simp[A9]) h
section
variable{E:i9}{w0:j7}
theorem H8{x l s a b:List Int}{e:Int}(hx:∀n∈x,F5 n)(hx0:x≠[])(hxl:x.length<900)(hf:(⟨l,s⟩:Fr).Ok)(hal:a.length<2^40)(hbl:b.length<2^40)(ht:c5Z x l s e a b=true){d1 d2 d4 d5:D}(w1:Wk d1 (iD l))(w2:Wk d2 (iD s))(w4:Wk d4 (iD a))(w5:Wk d5 (iD b)){S:b8}{K:D→b8→Prop}(hK:K (.bool true) S):
  j6 Try.prog E w0 s9 [bD x,d1,d2, .int .i64 e,d4,d5] S K:=
 DF.weak (es:=[bD x,iD l,iD s, .int .i64 e,iD a,iD b]) ⟨Wk.refl _,w1,w2,Wk.refl _,w4,w5,trivial⟩ ((d3m hx hx0 hxl hf hal hbl).use (by rw[ht];exact hK))
theorem b9A{code:List Int}{S:b8}{K:D→b8→Prop}(hK:K (moD (L5 code)) S):j6 Try.prog E w0 D2 [bD code] S K:=a4G.use hK
theorem a4b{m:Mo}(hm:m.Fits){fn at':Int}(hfn:X1 fn){f:Fr}(hf:f.Ok){r:List (Int×Fr)×Int}(hr:X5 m fn at' f=r){d:D}(w:Wk d (frD f)){S:b8}{K:D→b8→Prop}(hK:K (.tup [b2c r.1, .int .i64 r.2]) S):j6 Try.prog E w0 u7 [moD m, .int .i64 fn, .int .i64 at',d] S K:=
 DF.weak (es:=[moD m, .int .i64 fn, .int .i64 at',frD f]) ⟨Wk.refl _,Wk.refl _,Wk.refl _,w,trivial⟩ ((a3z hm hfn hf).use (by rw[hr];exact hK))
theorem c3x{m:Mo}(hm:m.Fits){fn:Int}(hfn:X1 fn){r:Fr×Int}(hr:G6 m fn=r){d:D}(w:Wk d (moD m)){S:b8}{K:D→b8→Prop}(hK:K (.tup [frD r.1, .int .i64 r.2]) S):j6 Try.prog E w0 D9 [d, .int .i64 fn] S K:=
 DF.weak (es:=[moD m, .int .i64 fn]) ⟨w,Wk.refl _,trivial⟩ ((a2z hm hfn).use (by rw[hr];exact hK))
theorem c4i(l:List Int):Wk (.agg [iD l, .nilSlc]) (frD ⟨l,[]⟩):=Wk.agg ⟨Wk.refl _,Wk.nil 1,trivial⟩
theorem b7V{l s:List Int}(hl:l.length<2^30)(hs:s.length<2^30)(h:∀n∈l++s,X1 n):(⟨l,s⟩:Fr).Ok:=⟨hl,hs,h⟩
abbrev c8k(E:i9):D→b8→Prop:=d9 E fun d _=>d= .bool true
theorem d5R{S:b8}{f:Fr}{K:b8→Prop}(h:∀S',S.le S'→K S'):j8 S [.nilSlc, .nilSlc] fun v S1=>i7 S1 2 v (frD f) fun _ S2=>K S2:=by
 intro k a n
 refine(z7.new (sz:=2) (c:=[D.nilSlc, .nilSlc]) (a:=a)).st (ds:=frC f) (W3 _) ⟨rfl,by decide,by decide⟩ fun c=> ?_
 rw[b8.set_set]
 exact h _ (b8.le_new n)
def d1u:List Int:=[4,47,0,0,0,0,51]
def mo0:Mo:=⟨[],[],[⟨[],[],[],0,0,[0]⟩]⟩
theorem d2j:mo0.Fits:=by
 have hro:(⟨[],[],[],0,0,[0]⟩:Ro).Ok:=⟨by simp,by simp,by simp,by simp,by simp[X1],by simp[X1],by simp,by simp[F5]⟩
 refine⟨⟨by simp[mo0],by simp[mo0],by simp[mo0], ?_, ?_, ?_⟩,by simp[mo0],by simp[mo0],by simp[mo0], ?_, ?_⟩
 ·intro t h;cases h
 ·intro t h;cases h
 ·intro r h;rcases List.mem_singleton.1 h with rfl;exact hro
 ·intro t h;cases h
 ·intro r h;rcases List.mem_singleton.1 h with rfl;exact⟨by simp,by simp,by simp⟩
theorem d1D{S:b8}{p q:Fr}(hp:p.stack=[]):U1 E w0 (c8k E) (.bool true) (.bool true) (.bool true) (.int .i64 190) (b2c []) (.int .i64 0) (.int .i64 210) (.int .i64 211) (.int .i64 4) (.int .i64 4) (.int .i64 190) (b2c [(0,p),(6,q)]) (.int .i64 0) (.int .i64 190) (.int .i64 130) S:=by
 refine a5b ?_
 unfold a1K
 have e0:m9 (b2c [])=some (.int .i64 0):=rfl
 have e2:m9 (b2c [(0,p),(6,q)])=some (.int .i64 2):=rfl
 have i0:p9 3 (b2c [(0,p),(6,q)]) (.int .i64 0)=some (.elt (edR (0,p)) 0):=rfl
 have i1:p9 3 (b2c [(0,p),(6,q)]) (.int .i64 1)=some (.elt (edR (6,q)) 0):=rfl
 have l0:d0 S (.elt (edR (0,p)) 0)=some (.int .i64 0):=rfl
 have l1:d0 S (.elt (edR (6,q)) 0)=some (.int .i64 6):=rfl
 have l2:d0 S (.elt (edR (0,p)) 2)=some (iD []):=by rw[←hp];rfl
 have n0:m9 (iD [])=some (.int .i64 0):=rfl
 simp only[oD,L1,decide_true,N6,t4,vdT,gdT,P0,if_true,e0,e2,i0,i1,ofE,Nat.zero_add,Nat.add_zero,Nat.reduceAdd,l0,l1,l2,n0]
 refine c8r.use ?_
 exact d9.here rfl
theorem d1i{S:b8}:U5 E w0 (c8k E) (iD [1,5,0]) (.bool true) (.bool true) (.bool true) (.int .i64 190) (b2c []) (.int .i64 0) (.int .i64 210) (.int .i64 211) (.int .i64 4) (.int .i64 4) (.int .i64 190) (bD d1u) S:=by
 refine a5c ?_
 unfold a1G
 refine b9A ?_
 refine a0b (l:=[4]) rfl ?_
 rw[show o8 [D.nilSlc, .nilSlc] [(0,1,iD [1,5,0]),(1,1,iD [4])]=some [iD [1,5,0],iD [4]]from rfl,agS,oD]
 refine a4b (f:=⟨[1,5,0],[4]⟩) (r:=([(0,⟨[1,5,0],[]⟩),(6,⟨[1,5,0],[]⟩)],0)) (a2c (by simp[d1u,F5]) (by decide)) (by simp[X1]) (b7V (by decide) (by decide) (by simp[X1])) (by rw[a7q];kernel_rfl) (Wk.refl _) ?_
 refine exT (l:=[]) ?_
 refine exU (l:=[]) ?_
 refine a1e (l:=[46,1,0,0,0]) rfl ?_
 refine b9A ?_
 rw[show o8 [D.nilSlc, .nilSlc] [(0,1,iD [1,5,0])]=some [iD [1,5,0], .nilSlc]from rfl,agS,oD]
 refine a4b (f:=⟨[1,5,0],[]⟩) (r:=([],190)) (a2c (by simp[F5]) (by decide)) (by simp[X1]) (b7V (by decide) (by decide) (by simp[X1])) (by rw[a7q];kernel_rfl) (c4i _) ?_
 refine exT (l:=[]) ?_
 refine exU (l:=[]) ?_
 refine a1e (l:=[0]) rfl ?_
 rw[show o8 [.str [], .nilSlc, .nilSlc, .int .i64 0, .int .i64 0, .nilSlc] [(5,1,bD [0])]=some [.str [], .nilSlc, .nilSlc, .int .i64 0, .int .i64 0,bD [0]]from rfl,agS,oD,
  show j1 6 (List.replicate 1 [D.str [], .nilSlc, .nilSlc, .int .i64 0, .int .i64 0, .nilSlc]) [(0, .agg [.str [], .nilSlc, .nilSlc, .int .i64 0, .int .i64 0,bD [0]])]=some [[.str [], .nilSlc, .nilSlc, .int .i64 0, .int .i64 0,bD [0]]]from rfl]
 refine C9 rfl ?_
 rw[show o8 [D.nilSlc, .nilSlc, .nilSlc] [(2,1, .lst [[.str [], .nilSlc, .nilSlc, .int .i64 0, .int .i64 0,bD [0]]] 6)]=some [.nilSlc, .nilSlc, .lst [[.str [], .nilSlc, .nilSlc, .int .i64 0, .int .i64 0,bD [0]]] 6]from rfl,agS,oD]
 refine c3x (m:=mo0) (fn:=0) (r:=(fr0,130)) d2j (by simp[X1]) (by kernel_rfl) (Wk.agg (ds:=[_,_,_]) (es:=[a9a [],b0y [],a8v _]) ⟨Wk.nil _,Wk.nil _,Wk.lst1 (row:=[.str [], .nilSlc, .nilSlc, .int .i64 0, .int .i64 0,bD [0]]) (row':=[.str [],iD [],iD [], .int .i64 0, .int .i64 0,bD [0]]) ⟨Wk.refl _,Wk.nil _,Wk.nil _,Wk.refl _,Wk.refl _,Wk.refl _,trivial⟩ rfl,trivial⟩) ?_
 refine exT (l:=[]) ?_
 refine exU (l:=[]) ?_
 exact d5R fun S' _=>d1D rfl
theorem d2E{S:b8}{k:Nat}(hk:z7 S k 3 (O9 (L5 [4,51]))):R4 E w0 (c8k E) (iD [1,5,0]) (.bool true) (.bool true) (.bool true) (.ptr k 0) (.int .i64 190) (b2c []) (.int .i64 0) (.int .i64 210) (.int .i64 211) (.int .i64 4) S:=by
 refine a5p ?_
 unfold a1C
 rw[hk.all (n:=3) (by decide) rfl,oD]
 refine c3x (m:=L5 [4,51]) (r:=(fr0,4)) (a2c (by simp[F5]) (by decide)) (by simp[X1]) (by kernel_rfl) (Wk.refl _) ?_
 refine exT (l:=[]) ?_
 refine exU (l:=[]) ?_
 refine d5R fun S' _=> ?_
 refine a1e (l:=[4]) rfl ?_
 refine b9A ?_
 rw[show o8 [D.nilSlc, .nilSlc] [(0,1,iD [1,5,0])]=some [iD [1,5,0], .nilSlc]from rfl,agS,oD]
 refine a4b (f:=⟨[1,5,0],[]⟩) (r:=([],190)) (a2c (by simp[F5]) (by decide)) (by simp[X1]) (b7V (by decide) (by decide) (by simp[X1])) (by rw[a7q];kernel_rfl) (c4i _) ?_
 refine exT (l:=[]) ?_
 refine exU (l:=[]) ?_
 refine a1e (l:=d1u) rfl ?_
 exact d1i
theorem d2s{S:b8}{k:Nat}(hk:z7 S k 3 (O9 (L5 [4,51]))):U4 E w0 (c8k E) (iD [1,5,0]) (.bool true) (.bool true) (.bool true) (.ptr k 0) (.int .i64 190) (b2c []) (.int .i64 0) S:=by
 refine a5k ?_
 unfold a1I
 have hq:i4 S 3 (.ptr k 0)=some (moD (L5 [4,51])):=hk.all (by decide) rfl
 have hfit:(L5 [4,51]).Fits:=a2c (by simp[F5]) (by decide)
 rw[hq,oD]
 refine a0b (l:=[4,4]) rfl ?_
 rw[show o8 [D.nilSlc, .nilSlc] [(0,1,iD [1,5,0]),(1,1,iD [4,4])]=some [iD [1,5,0],iD [4,4]]from rfl,agS,oD]
 refine a4b (f:=⟨[1,5,0],[4,4]⟩) (r:=([],210)) hfit (by simp[X1]) (b7V (by decide) (by decide) (by simp[X1])) (by rw[a7q];kernel_rfl) (Wk.refl _) ?_
 refine exT (l:=[]) ?_
 refine exU (l:=[]) ?_
 rw[hq,oD]
 refine a0b (l:=[5]) rfl ?_
 rw[show o8 [D.nilSlc, .nilSlc] [(0,1,iD [1,5,0]),(1,1,iD [5])]=some [iD [1,5,0],iD [5]]from rfl,agS,oD]
 refine a4b (f:=⟨[1,5,0],[5]⟩) (r:=([],211)) hfit (by simp[X1]) (b7V (by decide) (by decide) (by simp[X1])) (by rw[a7q];kernel_rfl) (Wk.refl _) ?_
 refine exT (l:=[]) ?_
 refine exU (l:=[]) ?_
 rw[hq,oD]
 rw[show o8 [D.nilSlc, .nilSlc] [(0,1,iD [1,5,0])]=some [iD [1,5,0], .nilSlc]from rfl,agS,oD]
 refine a4b (f:=⟨[1,5,0],[]⟩) (r:=([],4)) hfit (by simp[X1]) (b7V (by decide) (by decide) (by simp[X1])) (by rw[a7q];kernel_rfl) (c4i _) ?_
 refine exT (l:=[]) ?_
 refine exU (l:=[]) ?_
 exact d2E hk
theorem d1z{S:b8}:R5 E w0 (c8k E) (iD [1,5,0]) (.bool true) (.bool true) (.bool true) S:=by
 refine a5n ?_
 unfold a1E
 refine a1e (l:=[4,51]) rfl ?_
 refine b9A ?_
 intro k a n
 refine(z7.new (sz:=3) (c:=[.nilSlc, .nilSlc, .nilSlc])).st (ds:=O9 (L5 [4,51])) (W3 _) ⟨rfl,by decide,by decide⟩ fun c'=> ?_
 rw[b8.set_set,show l7 [D.nilSlc, .nilSlc, .nilSlc] 0 (O9 (L5 [4,51]))=O9 (L5 [4,51]) from rfl]
 have hk:z7 (S.set k ⟨3,[O9 (L5 [4,51])],c'⟩) k 3 (O9 (L5 [4,51])):=z7.new
 generalize (S.set k ⟨3,[O9 (L5 [4,51])],c'⟩)=T at hk
 have hq:i4 T 3 (.ptr k 0)=some (moD (L5 [4,51])):=hk.all (by decide) rfl
 have hfit:(L5 [4,51]).Fits:=a2c (by simp[F5]) (by decide)
 rw[hq,oD]
 rw[show o8 [D.nilSlc, .nilSlc] [(0,1,iD [1,5,0])]=some [iD [1,5,0], .nilSlc]from rfl,agS,oD]
 refine a4b (f:=⟨[1,5,0],[]⟩) (r:=([],190)) hfit (by simp[X1]) (b7V (by decide) (by decide) (by simp[X1])) (by rw[a7q];kernel_rfl) (c4i _) ?_
 refine exT (l:=[]) ?_
 refine exU (l:=[]) ?_
 rw[hq,oD]
 refine a0b (l:=[4]) rfl ?_
 rw[show o8 [D.nilSlc, .nilSlc] [(0,1,iD [1,5,0]),(1,1,iD [4])]=some [iD [1,5,0],iD [4]]from rfl,agS,oD]
 refine a4b (f:=⟨[1,5,0],[4]⟩) (r:=([],0)) hfit (by simp[X1]) (b7V (by decide) (by decide) (by simp[X1])) (by rw[a7q];kernel_rfl) (Wk.refl _) ?_
 refine exT (l:=[]) ?_
 refine exU (l:=[]) ?_
 exact d2s hk
theorem d3b{S:b8}:W5 E w0 (c8k E) (iD [1,5,0]) (.bool true) (.bool true) S:=by
 refine a5B ?_
 unfold a1Z
 refine(a1e (l:=[4]) rfl ?_)
 refine(a0b (l:=[1,5]) rfl ?_)
 refine(H8 (x:=[4]) (l:=[1,5]) (s:=[]) (e:=2) (a:=[]) (b:=[]) (by simp[F5]) (by decide) (by decide) ⟨by decide,by decide,by simp[X1]⟩ (by decide) (by decide) (by rw[a0p];kernel_rfl) (Wk.refl _) (Wk.nil 1) (Wk.nil 1) (Wk.nil 1) ?_)
 refine D1 (a1e (l:=[4]) rfl ?_)
 refine a4W ?_
 refine D1 (a0b (l:=[1,1,1]) rfl ?_)
 refine D1 (H8 (x:=[4]) (l:=[1,5,0]) (s:=[1,1,1]) (e:=2) (a:=[]) (b:=[]) (by simp[F5]) (by decide) (by decide) ⟨by decide,by decide,by simp[X1]⟩ (by decide) (by decide) (by rw[a0p];kernel_rfl) (Wk.refl _) (Wk.refl _) (Wk.nil 1) (Wk.nil 1) ?_)
 refine a6k ?_
 refine D1 (a1e (l:=[4]) rfl ?_)
 refine D1 (a0b (l:=[1,5,16]) rfl ?_)
 refine D1 (H8 (x:=[4]) (l:=[1,5,16]) (s:=[]) (e:=2) (a:=[]) (b:=[]) (by simp[F5]) (by decide) (by decide) ⟨by decide,by decide,by simp[X1]⟩ (by decide) (by decide) (by rw[a0p];kernel_rfl) (Wk.refl _) (Wk.nil 1) (Wk.nil 1) (Wk.nil 1) ?_)
 refine a6k ?_
 refine D1 (a1e (l:=[4]) rfl ?_)
 refine D1 (a0b (l:=[1,5,6]) rfl ?_)
 refine D1 (H8 (x:=[4]) (l:=[1,5,6]) (s:=[]) (e:=2) (a:=[]) (b:=[]) (by simp[F5]) (by decide) (by decide) ⟨by decide,by decide,by simp[X1]⟩ (by decide) (by decide) (by rw[a0p];kernel_rfl) (Wk.refl _) (Wk.nil 1) (Wk.nil 1) (Wk.nil 1) ?_)
 refine a6k ?_
 refine D1 (a1e (l:=[4]) rfl ?_)
 refine a4W ?_
 refine D1 (a0b (l:=[-1]) rfl ?_)
 refine D1 (H8 (x:=[4]) (l:=[1,5,0]) (s:=[-1]) (e:=2) (a:=[]) (b:=[]) (by simp[F5]) (by decide) (by decide) ⟨by decide,by decide,by simp[X1]⟩ (by decide) (by decide) (by rw[a0p];kernel_rfl) (Wk.refl _) (Wk.refl _) (Wk.nil 1) (Wk.nil 1) ?_)
 refine a6k ?_
 exact d1z
theorem d3B{S:b8}:W4 E w0 (c8k E) (iD [1,5,0]) (.bool true) S:=by
 refine a5G ?_
 unfold a1Y
 refine(a1e (l:=[10]) rfl ?_)
 refine(a0b (l:=[4,4]) rfl ?_)
 refine(H8 (x:=[10]) (l:=[1,5,0]) (s:=[4,4]) (e:=210) (a:=[]) (b:=[]) (by simp[F5]) (by decide) (by decide) ⟨by decide,by decide,by simp[X1]⟩ (by decide) (by decide) (by rw[a0p];kernel_rfl) (Wk.refl _) (Wk.refl _) (Wk.nil 1) (Wk.nil 1) ?_)
 refine D1 (a1e (l:=[9]) rfl ?_)
 refine a4W ?_
 refine D1 (a0b (l:=[0]) rfl ?_)
 refine a4W ?_
 refine D1 (H8 (x:=[9]) (l:=[1,5,0]) (s:=[0]) (e:=0) (a:=[1,5,0]) (b:=[]) (by simp[F5]) (by decide) (by decide) ⟨by decide,by decide,by simp[X1]⟩ (by decide) (by decide) (by rw[a0p];kernel_rfl) (Wk.refl _) (Wk.refl _) (Wk.refl _) (Wk.nil 1) ?_)
 refine a6k ?_
 refine D1 (a1e (l:=[10]) rfl ?_)
 refine a4W ?_
 refine D1 (a0b (l:=[0]) rfl ?_)
 refine D1 (H8 (x:=[10]) (l:=[1,5,0]) (s:=[0]) (e:=211) (a:=[]) (b:=[]) (by simp[F5]) (by decide) (by decide) ⟨by decide,by decide,by simp[X1]⟩ (by decide) (by decide) (by rw[a0p];kernel_rfl) (Wk.refl _) (Wk.refl _) (Wk.nil 1) (Wk.nil 1) ?_)
 refine a6k ?_
 refine D1 (a1e (l:=[8,0,0]) rfl ?_)
 refine a4W ?_
 refine D1 (a0b (l:=[0]) rfl ?_)
 refine D1 (H8 (x:=[8,0,0]) (l:=[1,5,0]) (s:=[0]) (e:=211) (a:=[]) (b:=[]) (by simp[F5]) (by decide) (by decide) ⟨by decide,by decide,by simp[X1]⟩ (by decide) (by decide) (by rw[a0p];kernel_rfl) (Wk.refl _) (Wk.refl _) (Wk.nil 1) (Wk.nil 1) ?_)
 refine a6k ?_
 refine D1 (a1e (l:=[7,0,0]) rfl ?_)
 refine a4W ?_
 refine D1 (a0b (l:=[4,4]) rfl ?_)
 refine D1 (H8 (x:=[7,0,0]) (l:=[1,5,0]) (s:=[4,4]) (e:=210) (a:=[]) (b:=[]) (by simp[F5]) (by decide) (by decide) ⟨by decide,by decide,by simp[X1]⟩ (by decide) (by decide) (by rw[a0p];kernel_rfl) (Wk.refl _) (Wk.refl _) (Wk.nil 1) (Wk.nil 1) ?_)
 refine a6k ?_
 refine D1 (a1e (l:=[10]) rfl ?_)
 refine a4W ?_
 refine D1 (a0b (l:=[5]) rfl ?_)
 refine a4W ?_
 refine D1 (a0b (l:=[5,5]) rfl ?_)
 refine D1 (H8 (x:=[10]) (l:=[1,5,0]) (s:=[5]) (e:=0) (a:=[1,5,0]) (b:=[5,5]) (by simp[F5]) (by decide) (by decide) ⟨by decide,by decide,by simp[X1]⟩ (by decide) (by decide) (by rw[a0p];kernel_rfl) (Wk.refl _) (Wk.refl _) (Wk.refl _) (Wk.refl _) ?_)
 refine a6k ?_
 refine D1 (a1e (l:=[9]) rfl ?_)
 refine a4W ?_
 refine D1 (H8 (x:=[9]) (l:=[1,5,0]) (s:=[]) (e:=210) (a:=[]) (b:=[]) (by simp[F5]) (by decide) (by decide) ⟨by decide,by decide,by simp[X1]⟩ (by decide) (by decide) (by rw[a0p];kernel_rfl) (Wk.refl _) (Wk.nil 1) (Wk.nil 1) (Wk.nil 1) ?_)
 refine a6k ?_
 exact d3b
theorem b4f{S:b8}:j6 Try.prog E w0 a3h [] S fun d _=>d= .bool true:=by
 refine a7y ?_
 unfold a3o
 refine(a0b (l:=[1,5,0]) rfl ?_)
 refine(a1e (l:=[7,1,0]) rfl ?_)
 refine(a0b (l:=[5]) rfl ?_)
 refine(H8 (x:=[7,1,0]) (l:=[1,5,0]) (s:=[]) (e:=0) (a:=[1,5,0]) (b:=[5]) (by simp[F5]) (by decide) (by decide) ⟨by decide,by decide,by simp[X1]⟩ (by decide) (by decide) (by rw[a0p];kernel_rfl) (Wk.refl _) (Wk.nil 1) (Wk.refl _) (Wk.refl _) ?_)
 refine D1 (a1e (l:=[7,2,0]) rfl ?_)
 refine a4W ?_
 refine D1 (H8 (x:=[7,2,0]) (l:=[1,5,0]) (s:=[]) (e:=212) (a:=[]) (b:=[]) (by simp[F5]) (by decide) (by decide) ⟨by decide,by decide,by simp[X1]⟩ (by decide) (by decide) (by rw[a0p];kernel_rfl) (Wk.refl _) (Wk.nil 1) (Wk.nil 1) (Wk.nil 1) ?_)
 refine a6k ?_
 refine D1 (a1e (l:=[8,2,0]) rfl ?_)
 refine a4W ?_
 refine D1 (a0b (l:=[4,2]) rfl ?_)
 refine D1 (a0b (l:=[1,5,2]) rfl ?_)
 refine D1 (a0b (l:=[4]) rfl ?_)
 refine D1 (H8 (x:=[8,2,0]) (l:=[1,5,0]) (s:=[4,2]) (e:=0) (a:=[1,5,2]) (b:=[4]) (by simp[F5]) (by decide) (by decide) ⟨by decide,by decide,by simp[X1]⟩ (by decide) (by decide) (by rw[a0p];kernel_rfl) (Wk.refl _) (Wk.refl _) (Wk.refl _) (Wk.refl _) ?_)
 refine a6k ?_
 refine D1 (a1e (l:=[11,1]) rfl ?_)
 refine a4W ?_
 refine D1 (a0b (l:=[1]) rfl ?_)
 refine D1 (H8 (x:=[11,1]) (l:=[1,5,0]) (s:=[1]) (e:=210) (a:=[]) (b:=[]) (by simp[F5]) (by decide) (by decide) ⟨by decide,by decide,by simp[X1]⟩ (by decide) (by decide) (by rw[a0p];kernel_rfl) (Wk.refl _) (Wk.refl _) (Wk.nil 1) (Wk.nil 1) ?_)
 refine a6k ?_
 refine D1 (a1e (l:=[11,1]) rfl ?_)
 refine a4W ?_
 refine D1 (a0b (l:=[1,5]) rfl ?_)
 refine D1 (H8 (x:=[11,1]) (l:=[1,5,0]) (s:=[1,5]) (e:=211) (a:=[]) (b:=[]) (by simp[F5]) (by decide) (by decide) ⟨by decide,by decide,by simp[X1]⟩ (by decide) (by decide) (by rw[a0p];kernel_rfl) (Wk.refl _) (Wk.refl _) (Wk.nil 1) (Wk.nil 1) ?_)
 refine a6k ?_
 refine D1 (a1e (l:=[11,1]) rfl ?_)
 refine a4W ?_
 refine D1 (a0b (l:=[1,1]) rfl ?_)
 refine a4W ?_
 refine D1 (a0b (l:=[1]) rfl ?_)
 refine D1 (H8 (x:=[11,1]) (l:=[1,5,0]) (s:=[1,1]) (e:=0) (a:=[1,5,0]) (b:=[1]) (by simp[F5]) (by decide) (by decide) ⟨by decide,by decide,by simp[X1]⟩ (by decide) (by decide) (by rw[a0p];kernel_rfl) (Wk.refl _) (Wk.refl _) (Wk.refl _) (Wk.refl _) ?_)
 refine a6k ?_
 exact d3B
end
end Go.Proofs.Ytdkidgkiplcggaa.d
end
section
namespace Go.Am
open Go.ChangeShapes Go.WideShapes Go.ChangeAt Go.RowKit
def a4D:Value→AV
 | .slice (some a) len cap=>if len≤cap∧(cap=0∨a.spot=none) then .slc (.old a.block) a.off len cap true 1 else .opq (.slice (some a) len cap)
 | .pointer (some a)=>if a.spot=none then .ptr (.old a.block) a.off else .opq (.pointer (some a))
 |v=>b7c v
def d2l:Value→AV
 | .agg cs=> .agg (cs.toList.map a4D)
 |v=>a4D v
theorem c5J(ρ:B1)(v:Value):rel ρ (a4D v) v:=by
 unfold a4D
 split
 ·rename_i a len cap
  split
  ·rename_i h
   simp only[rel,K9,b6O]
   refine⟨a,cap,rfl,h.1,Nat.le_refl _,fun _=>rfl, ?_,trivial⟩
   rcases h.2 with e|e
   ·exact .inl e
   ·right
    refine⟨a.block,0,rfl, ?_⟩
    obtain⟨b,o,s⟩:=a
    simp only at e
    subst e
    simp
  ·simp only[rel]
 ·rename_i a
  split
  ·rename_i e
   simp only[rel,K9]
   refine⟨a.block,0,rfl, ?_⟩
   obtain⟨b,o,s⟩:=a
   simp only at e
   subst e
   simp
  ·simp only[rel]
 ·exact b4b _
theorem b7n(ρ:B1):∀l:List Value,s5 ρ (l.map a4D) l
 | []=>r0.2 rfl
 |v::l=>o6.2 ⟨c5J ρ v,b7n ρ l⟩
theorem d1B(ρ:B1)(v:Value):rel ρ (d2l v) v:=by
 unfold d2l
 split
 ·simp only[rel]
  exact⟨_,rfl,b7n ρ _⟩
 ·exact c5J ρ _
theorem c3t(ρ:B1):∀l:List Value,s5 ρ (l.map d2l) l
 | []=>r0.2 rfl
 |v::l=>o6.2 ⟨d1B ρ v,c3t ρ l⟩
def a4z(W:World):i9:=fun b=>match W.heap[b]? with
 |some (.cells arr _ _)=>some (arr.toList.map a4D)
 |_=>none
theorem d2J(W:World)(b:Nat)(cs:List AV)(h:a4z W b=some cs):b<W.heap.size∧∃arr el fr,W.heap[b]? =some (.cells arr el fr)∧s5 (fun _=>none) cs arr.toList:=by
 unfold a4z at h
 split at h
 ·rename_i arr el fr e
  cases h
  exact⟨(Array.getElem?_eq_some_iff.1 e).1,arr,el,fr,e,b7n _ _⟩
 ·cases h
theorem d0J{P:Program}{f:FuncId}{W:World}{vargs:Array Value}(h:FnW P (a4z W) (d1g W) f (vargs.toList.map d2l) AHeap.empty fun v _=>v= .bool true):
  Calls P f vargs W fun e w=>e= .returned (.bool true)∧b9m W w:=
 c4h h (d2J W) (c3t _ _)
theorem b9m.same{W W':World}(h:b9m W W'){p:MemPlace}(hp:p.block<W.heap.size):W.sameAt W' p:=by
 cases p with
 |cell b off=>
  show W'.cell? ⟨b,off,none⟩=W.cell? ⟨b,off,none⟩
  unfold World.cell?
  rw[h.2.2 b hp]
 |map b=>
  show W'.heap[b]? =W.heap[b]?
  exact h.2.2 b hp
theorem b3t{H:Type}{enc:TypeId×Value→H}{P:Program}(hl:laidOutB P=true){W W':World}{sp:Nat→Bool}:∀ {ts:List TypeId} {vs:List Value} {ds:List (DataW H)} {ps:List MemPlace},(∀t∈ts,P.readableRec t=true∧t<P.types.size)→
  DataW.TrodAll enc P W 0 (fun _=>true) true ts vs ds ps→(∀p∈ps,W.sameAt W' p)→(∀p∈ps,sp p.block=true)→DataW.TrodAll enc P W' 0 sp true ts vs ds ps
 | [],[],[],ps,_,h,_,_=>h
 |t::ts,v::vs,d::ds,ps,ht,h,hs,hp=>by
  obtain⟨p,q,h1,h2,rfl⟩:=h
  refine⟨p,q,WideElems.Trod_stays hl (ht t List.mem_cons_self).1 (ht t List.mem_cons_self).2 h1 (fun x hx=>hs x (List.mem_append_left _ hx)) (fun x hx=>hp x (List.mem_append_left _ hx)), ?_,rfl⟩
  exact b3t hl (fun t ht'=>ht t (List.mem_cons_of_mem _ ht')) h2 (fun x hx=>hs x (List.mem_append_right _ hx)) (fun x hx=>hp x (List.mem_append_right _ hx))
theorem c5P{H:Type}{enc:TypeId×Value→H}{P:Program}{f:Func}{s:ChangeSpec}{apart fresh handsOn again:Bool}{W W':World}{args:Array Value}{ds gs:List (DataW H)}{before:List MemPlace}{b:TypeId}
  (hW:DataW.Whole enc P f.params.toList s.vars apart W args.toList ds gs before) (hvars:s.vars=[]) (hl:laidOutB P=true) (hts:∀t∈f.params.toList,P.readableRec t=true∧t<P.types.size)
  (hb:P.underlying b=some .bool) (hrt:f.resultTypes= #[b])
  (hres:(s.fn H ds).results=[.lit (.bool true)]) (hargs:(s.fn H ds).args=ds) (hvs:(s.fn H ds).vars=[]) (hk:b9m W W'):
  s.post enc P f apart fresh handsOn again W args (.bool true) W':=by
 have hW':=hW
 obtain⟨p,q,hA,hV,rfl,_,_⟩:=hW
 rw[hvars]at hV
 obtain⟨rfl,rfl⟩:=trodVars_none hV
 have hlt:∀x∈p,x.block<W.heap.size:=fun x hx=>hW'.lt x (by simpa using hx)
 refine c4O (pa:=p) (pv:=[]) hW' ?_ ?_ ?_ rfl hk ?_
 ·intro b0 sp hd
  rw[List.append_nil,hres,hrt]
  exact trodAll_cons_mk (shut_bool hb _) trodAll_mk0
 ·intro sp hsp
  rw[List.append_nil,hargs]
  exact b3t hl hts hA (fun x hx=>hk.same (hlt x hx)) (fun x hx=>hsp x (by simpa using hx))
 ·intro sp _
  rw[hvars,List.append_nil,hvs]
  rfl
 ·intro j t r h1 h2
  rw[hrt]at h1 h2
  match j,h1,h2 with
  |0,h1,h2=>
   simp[Value.resultList]at h1 h2
   subst h1 h2
   exact okWide_bool_mk hb _
theorem a4Z{w:World}{a:Addr}{v:Value}(h:w.cell? a=some v):a.spot=none∧∃arr el fr,w.heap[a.block]? =some (.cells arr el fr)∧arr[a.off]? =some v:=by
 unfold World.cell? at h
 split at h
 ·rename_i c el fr hb
  split at h
  ·cases h
  ·rename_i hns
   exact⟨by cases hs:a.spot with
    |none=>rfl
    |some x=>rw[hs]at hns;exact(hns rfl).elim,c,el,fr,hb,h⟩
 ·cases h
end Go.Am
end
section
open Go Go.Am
namespace Go.Am.Old
open Go.ChangeShapes Go.WideShapes Go.ChangeAt Go.RowKit
section
variable{H:Type}{enc:TypeId×Value→H}{P:Program}{W:World}{b0:Nat}{sp:Nat→Bool}{hd:Bool}
theorem d1C{n:Nat}{t:TypeId}{k:IntKind}{cs:List Value}{x:DataW H×List MemPlace}(ht:P.underlying t=some (.int k))(h:DataW.trod enc P W b0 sp hd n t cs=some x):∃z,cs=[.int k z]∧(Lit.int k z).wf=true:=by
 cases n with
 |zero=>simp[DataW.trod]at h
 |succ n=>
  simp only[DataW.trod,ht]at h
  split at h
  all_goals (first|(cases h;done)|skip)
  all_goals simp_all
  all_goals (first|(obtain⟨⟨rfl,h2⟩,_⟩:=h;exact⟨_,⟨rfl,rfl⟩,h2⟩)|skip)
end
theorem c7f{α β:Type}{f:α→Option β}:∀ {l:List α} {r:List β},l.mapM f=some r→∀(i:Nat) (x:α),l[i]? =some x→∃y,r[i]? =some y∧f x=some y
 | [],r,h,i,x,hx=>by simp at hx
 |a::l,r,h,i,x,hx=>by
  simp only[List.mapM_cons,Option.bind_eq_bind,Option.bind_eq_some_iff]at h
  obtain⟨b,hb,bs,hbs,h⟩:=h
  cases h
  cases i with
  |zero=>simp at hx;subst hx;exact⟨b,rfl,hb⟩
  |succ i=>
   have hx':l[i]? =some x:=by simpa using hx
   obtain⟨y,h1,h2⟩:=c7f hbs i x hx'
   exact⟨y,by simpa using h1,h2⟩
theorem b8j{α β:Type}{f:α→Option β}:∀ {l:List α} {r:List β},l.mapM f=some r→r.length=l.length
 | [],r,h=>by simp at h;subst h;rfl
 |a::l,r,h=>by
  simp only[List.mapM_cons,Option.bind_eq_bind,Option.bind_eq_some_iff]at h
  obtain⟨b,hb,bs,hbs,h⟩:=h
  cases h
  simp[b8j hbs]
theorem b1u{H:Type}{P:Program}{e:TypeId}:∀ {l:List (DataW H)} {d:DataW H},d∈l→∀n∈DataW.weights P e d,n∈DataW.weightsAll P e l
 |a::l,d,h,n,hn=>by
  simp only[DataW.weightsAll]
  rcases List.mem_cons.1 h with rfl|h
  ·exact List.mem_append_left _ hn
  ·exact List.mem_append_right _ (b1u h n hn)
theorem c6J{H:Type}{enc:TypeId×Value→H}{P:Program}{W:World}{hd:Bool}{n:Nat}{t e:TypeId}{sz:Nat}{cs:List Value}{x:DataW H×List MemPlace}(ht:P.underlying t=some (.slice e))(hc:P.cellsOf e=sz)(hsz:0<sz)
  (h:DataW.trod enc P W 0 (fun _=>true) hd n t cs=some x):∃c,cs=[c]∧((a4D c= .nilSlc)∨∃(b i len cap m:Nat) (els:List (DataW H×List MemPlace)),a4D c= .slc (.old b) i len cap true 1∧len≤cap∧els.length=len∧(∀d∈els,∀k∈DataW.weights P e d.1,k∈DataW.weights P t x.1)∧
   (∀k:Nat,len*P.bytesOf e≤k∨k∈DataW.weights P t x.1∨True)∧(∃k∈DataW.weights P t x.1,len*P.bytesOf e≤k)∧
   ∀j d,els[j]? =some d→∃(all:List AV) (vs:List Value),a4z W b=some all∧(all.drop (i+j*sz)).take sz=vs.map a4D∧DataW.trod enc P W 0 (fun _=>true) hd m e vs=some d):=by
 rcases DataW.trod_slice ht h with ⟨e1,_⟩|⟨a,len,cap,elems,rest,m,_,e1,hx,_,hl,hm,hlen,hel,hsp,_⟩
 ·exact⟨_,e1, .inl rfl⟩
 ·refine⟨_,e1, .inr ?_⟩
  have hd':x.1= .slice (elems.map (·.1)) (rest.map (·.1)):=by rw[hx]
  have hcell:∀ {c:Addr} {cs:List Value},W.cells? 0 c sz=some cs→cs.length=sz∧∀j,j<sz→∃x,cs[j]? =some x∧W.cell? (c.add j)=some x:=by
   intro c cs hc
   unfold World.cells? at hc
   rw[if_pos (Nat.zero_le _)]at hc
   refine⟨by have:=b8j hc;simpa using this,fun j hj=> ?_⟩
   obtain⟨y,h1,h2⟩:=c7f hc j j (by rw[List.getElem?_range hj])
   exact⟨y,h1,h2⟩
  have hs:cap=0∨a.spot=none:=by
   by_cases h0:cap=0
   ·exact .inl h0
   ·right
    by_cases hl0:len=0
    ·obtain⟨r1,r2⟩:=hsp rfl
     have:=r2 0 (by omega)
     rw[hc,hl0,List.getElem?_eq_getElem (by omega)]at this
     obtain⟨cs,h1,_⟩:=Option.bind_eq_some_iff.1 this
     obtain⟨x,_,h2⟩:=(hcell h1).2 0 hsz
     simp only[Nat.add_zero,Nat.zero_mul]at h2
     exact(a4Z h2).1
    ·have:=hel 0 (by omega)
     rw[hc,List.getElem?_eq_getElem (by omega)]at this
     obtain⟨cs,h1,_⟩:=Option.bind_eq_some_iff.1 this
     obtain⟨x,_,h2⟩:=(hcell h1).2 0 hsz
     simp only[Nat.add_zero,Nat.zero_mul]at h2
     exact(a4Z h2).1
  refine⟨a.block,a.off,len,cap,m,elems, ?_,by omega,hlen, ?_,fun _=> .inr (.inr trivial),⟨(elems.length+rest.length)*P.bytesOf e, ?_, ?_⟩, ?_⟩
  ·simp only[a4D]
   rw[if_pos ⟨hl,hs⟩]
  ·intro d hdm k hk
   rw[hd']
   simp only[DataW.weights,ht]
   exact List.mem_cons_of_mem _ (List.mem_append_left _ (b1u (d:=d.1) (List.mem_map.2 ⟨d,hdm,rfl⟩) k hk))
  ·rw[hd'];simp[DataW.weights,ht]
  ·rw[hlen];exact Nat.mul_le_mul_right _ (by omega)
  ·intro i d hid
   have hi:i<len:=by have:=(List.getElem?_eq_some_iff.1 hid).1;omega
   have hi':=hel i hi
   rw[hc,hid]at hi'
   obtain⟨cs,h1,h2⟩:=Option.bind_eq_some_iff.1 hi'
   obtain⟨c1,c2⟩:=hcell h1
   have hs':a.spot=none:=hs.resolve_left (by omega)
   have hadd:∀j,(a.add (i*sz)).add j=⟨a.block,a.off+i*sz+j,none⟩:=by
    intro j
    obtain⟨b,of,s⟩:=a
    simp only at hs'
    subst hs'
    unfold Addr.add
    split<;>split<;>simp_all
   obtain⟨x0,_,hx0⟩:=c2 0 hsz
   rw[hadd]at hx0
   obtain⟨_,arr,el,fr,hb,_⟩:=a4Z hx0
   simp only at hb
   refine⟨arr.toList.map a4D,cs,by unfold a4z;rw[hb], ?_,h2⟩
   refine List.ext_getElem? fun j=> ?_
   rw[List.getElem?_take]
   split
   ·rename_i hj
    obtain⟨xj,hj1,hj2⟩:=c2 j hj
    rw[hadd]at hj2
    obtain⟨_,arr',el',fr',hb',hj3⟩:=a4Z hj2
    simp only at hb' hj3
    rw[hb]at hb'
    cases hb'
    rw[List.getElem?_drop,List.getElem?_map,Array.getElem?_toList,hj3,List.getElem?_map,hj1]
   ·rename_i hj
    rw[List.getElem?_map,List.getElem?_eq_none (by omega)]
    rfl
theorem d4j{z:Int}(h:(Lit.int .i64 z).wf=true): -9223372036854775808≤z∧z≤9223372036854775807:=by
 simp only[Lit.wf,Bool.and_eq_true,decide_eq_true_eq]at h
 have h1:IntKind.i64.min= -9223372036854775808:=rfl
 have h2:IntKind.i64.max=9223372036854775807:=rfl
 omega
theorem d5z{z:Int}(h:(Lit.int .u8 z).wf=true):0≤z∧z≤255:=by
 simp only[Lit.wf,Bool.and_eq_true,decide_eq_true_eq]at h
 have h1:IntKind.u8.min=0:=rfl
 have h2:IntKind.u8.max=255:=rfl
 omega
section
variable{H:Type}{enc:TypeId×Value→H}{P:Program}{W:World}{hd:Bool}
theorem d1x{α:Type}[Inhabited α]{row:α→List D}{a6O:α→Prop}{n:Nat}{t e:TypeId}{sz:Nat}{cs:List Value}{x:DataW H×List MemPlace}(ht:P.underlying t=some (.slice e))(hc:P.cellsOf e=sz)(hsz:0<sz)(hrow:∀a,(row a).length=sz)
  (h:DataW.trod enc P W 0 (fun _=>true) hd n t cs=some x)
  (f:∀m vs d,DataW.trod enc P W 0 (fun _=>true) hd m e vs=some d→(∀k∈DataW.weights P e d.1,k∈DataW.weights P t x.1)→∃a,a6O a∧(∀R,A0 (a4z W) R (row a) (vs.map a4D))∧(vs.map a4D).all r6=true):
  ∃c l,cs=[c]∧(∀a∈l,a6O a)∧(∀R,Rp (a4z W) R (.lst (l.map row) sz) (a4D c))∧r6 (a4D c)=true∧(l=[]∨∃k∈DataW.weights P t x.1,l.length*P.bytesOf e≤k):=by
 obtain⟨c,e0,h1|⟨b,i,len,cap,m,els,h1,hlc,h2,h3,_,hk,h6⟩⟩:=c6J ht hc hsz h
 ·exact⟨c,[],e0,by simp,fun R=>by rw[h1];simp only[Rp];exact .inl ⟨by trivial,by trivial⟩,by rw[h1];rfl, .inl rfl⟩
 ·have each:∀j,∃a:α,j<len→a6O a∧∃all,a4z W b=some all∧(∀R,A0 (a4z W) R (row a) ((all.drop (i+j*sz)).take sz))∧((all.drop (i+j*sz)).take sz).all r6=true:=by
   intro j
   by_cases hj:j<len
   ·obtain⟨all,vs,g1,g2,g3⟩:=h6 j _ (List.getElem?_eq_getElem (by omega:j<els.length))
    obtain⟨a,q1,q2,q3⟩:=f m vs _ g3 (h3 _ (List.getElem_mem _))
    exact⟨a,fun _=>⟨q1,all,g1,by rw[g2];exact q2,by rw[g2];exact q3⟩⟩
   ·exact⟨default,fun h=>(hj h).elim⟩
  obtain⟨g,hg⟩:=Classical.axiomOfChoice each
  have main:∀(all:List AV),a4z W b=some all→∀N,N≤len→(∀R,a1n (a4z W) R (((List.range N).map g).map row) ((all.drop i).take (N*sz)))∧((all.drop i).take (N*sz)).all r6=true:=by
   intro all hall N
   induction N with
   |zero=>intro _;exact⟨fun R=>by simp[a1n],by simp⟩
   |succ N ih=>
    intro hN
    obtain⟨i1,i2⟩:=ih (by omega)
    obtain⟨_,all',g1,g2,g3⟩:=hg N (by omega)
    rw[hall]at g1
    cases g1
    have e1:(all.drop i).take ((N+1)*sz)=(all.drop i).take (N*sz)++(all.drop (i+N*sz)).take sz:=by
     rw[Nat.succ_mul,List.take_add,List.drop_drop]
    rw[e1]
    refine⟨fun R=> ?_,by rw[List.all_append,i2,g3];rfl⟩
    rw[List.range_succ,List.map_append,List.map_append,H4,List.flatten_append]
    refine(H4.1 (i1 R)).append ?_
    simpa using g2 R
  refine⟨c,(List.range len).map g,e0,fun a ha=> ?_,fun R=> ?_,by rw[h1];rfl, .inr ?_⟩
  ·obtain⟨j,hj,rfl⟩:=List.mem_map.1 ha
   exact(hg j (List.mem_range.1 hj)).1
  ·rw[h1]
   simp only[Rp]
   refine .inr ⟨.old b,i,cap,true,1,by simp,trivial,by simpa using hlc, ?_, ?_⟩
   ·intro r hr
    obtain⟨a,_,rfl⟩:=List.mem_map.1 hr
    exact hrow a
   ·by_cases h0:len=0
    ·left;subst h0;rfl
    ·right
     obtain⟨_,all,g1,_⟩:=hg 0 (by omega)
     obtain⟨m1,m2⟩:=main all g1 len (Nat.le_refl _)
     exact⟨all,g1,by simpa using m1 R,by simpa using m2⟩
  ·obtain⟨k,hk1,hk2⟩:=hk
   exact⟨k,hk1,by simpa using hk2⟩
end
section
variable{H:Type}{enc:TypeId×Value→H}{P:Program}{W:World}{hd:Bool}
theorem d5i{n:Nat}{t:TypeId}{k:IntKind}{cs:List Value}{x:DataW H×List MemPlace}(ht:P.underlying t=some (.int k))(h:DataW.trod enc P W 0 (fun _=>true) hd n t cs=some x):
  ∃z:Int,(Lit.int k z).wf=true∧(∀R,A0 (a4z W) R [.int k z] (cs.map a4D))∧(cs.map a4D).all r6=true:=by
 obtain⟨z,rfl,w⟩:=d1C ht h
 refine⟨z,w,fun R=> ?_,rfl⟩
 simp only[List.map_cons,List.map_nil,A0,Rp]
 exact⟨_,_,rfl,rfl,rfl⟩
end
section
variable{H:Type}{enc:TypeId×Value→H}{P:Program}{W:World}{hd:Bool}
end
end Go.Am.Old
end
section
open Go Go.Am
namespace Go.Am.Old
open Go.ChangeShapes Go.WideShapes Go.ChangeAt Go.RowKit
def Rd{H:Type}(enc:TypeId×Value→H)(P:Program)(W:World)(t:TypeId){α:Type}(row:α→List D)(a6O:α→Prop):Prop:=
 ∀(hd:Bool) (n:Nat) (cs:List Value) (x:DataW H×List MemPlace),DataW.trod enc P W 0 (fun _=>true) hd n t cs=some x→(∀k∈DataW.weights P t x.1,k≤reachBytes)→
  ∃a,a6O a∧(∀R,A0 (a4z W) R (row a) (cs.map a4D))∧(cs.map a4D).all r6=true
def c4z(P:Program):List Field→Nat
 | []=>0
 |f::fs=>P.cellsOf f.type+c4z P fs
def RdF{H:Type}(enc:TypeId×Value→H)(P:Program)(W:World)(fs:List Field)(o:Nat){α:Type}(row:α→List D)(a6O:α→Prop):Prop:=
 ∀(hd:Bool) (n:Nat) (cs:List Value) (ys:List (DataW H×List MemPlace)),(fs.mapM fun f=>DataW.trod enc P W 0 (fun _=>true) hd n f.type ((cs.drop f.offset).take (P.cellsOf f.type)))=some ys→
  (∀k∈DataW.weightsEach P (fs.map (·.type)) (ys.map (·.1)),k≤reachBytes)→
  ∃a,a6O a∧(∀R,A0 (a4z W) R (row a) (((cs.drop o).take (c4z P fs)).map a4D))∧(((cs.drop o).take (c4z P fs)).map a4D).all r6=true
section
variable{H:Type}{enc:TypeId×Value→H}{P:Program}{W:World}
theorem Rd.map{t:TypeId}{α β:Type}{row:α→List D}{a6O:α→Prop}{row':β→List D}{Good':β→Prop}(h:Rd enc P W t row a6O)(g:α→β)(hr:∀a,row' (g a)=row a)(hg:∀a,a6O a→Good' (g a)):Rd enc P W t row' Good':=fun hd n cs x h1 h2=>by
 obtain⟨a,a1,a2,a3⟩:=h hd n cs x h1 h2
 exact⟨g a,hg a a1,fun R=>by rw[hr];exact a2 R,a3⟩
theorem Rd.int{t:TypeId}{k:IntKind}(ht:P.underlying t=some (.int k)):Rd enc P W t (fun z:Int=>[.int k z]) (fun z=>(Lit.int k z).wf=true):=fun hd n cs x h _=>d5i ht h
theorem Rd.i64{t:TypeId}(ht:P.underlying t=some (.int .i64)):Rd enc P W t (fun z:Int=>[.int .i64 z]) (fun z=> -9223372036854775808≤z∧z≤9223372036854775807):=(Rd.int ht).map id (fun _=>rfl) fun _ h=>d4j h
theorem Rd.u8{t:TypeId}(ht:P.underlying t=some (.int .u8)):Rd enc P W t (fun z:Int=>[.int .u8 z]) (fun z=>0≤z∧z≤255):=(Rd.int ht).map id (fun _=>rfl) fun _ h=>d5z h
theorem Rd.bool{t:TypeId}(ht:P.underlying t=some .bool):Rd enc P W t (fun b:Bool=>[.bool b]) (fun _=>True):=fun hd n cs x h _=>by
 cases n with
 |zero=>simp[DataW.trod]at h
 |succ n=>
  simp only[DataW.trod,ht]at h
  split at h
  all_goals (first|(cases h;done)|skip)
  all_goals simp_all
  rename_i b
  have:∃b':Bool,(∀R,A0 (a4z W) R [D.bool b'] [a4D (Value.bool b)]):=⟨b,fun R=>by simp only[A0,Rp];exact⟨_,_,rfl,rfl,rfl⟩⟩
  obtain⟨b',hb⟩:=this
  refine⟨?_,rfl⟩
  cases b'
  ·exact .inl hb
  ·exact .inr hb
theorem Rd.str{t:TypeId}(ht:P.underlying t=some .string):Rd enc P W t (fun s:List UInt8=>[.str s]) (fun s=>s.length<2^47):=fun hd n cs x h hw=>by
 cases n with
 |zero=>simp[DataW.trod]at h
 |succ n=>
  simp only[DataW.trod,ht]at h
  split at h
  all_goals (first|(cases h;done)|skip)
  all_goals simp_all
  rename_i s
  obtain⟨h1,rfl⟩:=h
  have:=reachBytes_lt
  refine⟨s.data.toList, ?_,fun R=> ?_,rfl⟩
  ·have:=hw s.data.toList.length (by simp[DataW.weights])
   omega
  simp only[A0,Rp]
  exact⟨_,_,rfl,rfl,rfl⟩
theorem Rd.slice{t e:TypeId}{sz b:Nat}{α:Type}[Inhabited α]{row:α→List D}{a6O:α→Prop}(ht:P.underlying t=some (.slice e))(hc:P.cellsOf e=sz)(hsz:0<sz)(hb:P.bytesOf e=b)(hrow:∀a,(row a).length=sz)(h:Rd enc P W e row a6O):
  Rd enc P W t (fun l:List α=>[.lst (l.map row) sz]) (fun l=>l.length*b<2^47∧∀a∈l,a6O a):=fun hd n cs x hx hw=>by
 obtain⟨c,l,rfl,h1,h2,h3,h4⟩:=d1x ht hc hsz hrow hx fun m vs d hd' hk=>h hd m vs d hd' fun k hk'=>hw k (hk k hk')
 have:=reachBytes_lt
 refine⟨l,⟨?_,h1⟩,fun R=> ?_,by simp[h3]⟩
 ·rcases h4 with rfl|⟨k,k1,k2⟩
  ·show 0*b<2^47;omega
  ·have:=hw k k1
   rw[hb]at k2
   omega
 ·simp only[List.map_cons,List.map_nil,A0]
  exact⟨_,_,rfl,h2 R,rfl⟩
theorem RdF.nil{o:Nat}:RdF enc P W [] o (fun _:Unit=>[]) (fun _=>True):=fun hd n cs ys h _=>⟨(),trivial,fun R=>by simp[c4z,A0],by simp[c4z]⟩
theorem RdF.cons{f:Field}{fs:List Field}{o s:Nat}{α β:Type}{row1:α→List D}{G1:α→Prop}{row2:β→List D}{G2:β→Prop}(ho:f.offset=o)(hs:P.cellsOf f.type=s)(h1:Rd enc P W f.type row1 G1)(h2:RdF enc P W fs (o+s) row2 G2):
  RdF enc P W (f::fs) o (fun p:α×β=>row1 p.1++row2 p.2) (fun p=>G1 p.1∧G2 p.2):=fun hd n cs ys h hw=>by
 simp only[List.mapM_cons,Option.bind_eq_bind,Option.bind_eq_some_iff]at h
 obtain⟨y,hy,ys',hys,h⟩:=h
 cases h
 simp only[List.map_cons,DataW.weightsEach,List.mem_append]at hw
 obtain⟨a,a1,a2,a3⟩:=h1 hd n _ y hy fun k hk=>hw k (.inl hk)
 obtain⟨b,b1,b2,b3⟩:=h2 hd n cs ys' hys fun k hk=>hw k (.inr hk)
 rw[ho,hs]at a2 a3
 have e:((cs.drop o).take (c4z P (f::fs))).map a4D=((cs.drop o).take s).map a4D++((cs.drop (o+s)).take (c4z P fs)).map a4D:=by
  rw[c4z,hs,List.take_add,List.map_append,List.drop_drop]
 exact⟨(a,b),⟨a1,b1⟩,fun R=>by rw[e];exact(a2 R).append (b2 R),by rw[e,List.all_append,a3,b3];rfl⟩
theorem Rd.struct{t:TypeId}{fs:Array Field}{α:Type}{row:α→List D}{G:α→Prop}(ht:P.underlying t=some (.struct fs))(hc:P.cellsOf t=c4z P fs.toList)(h:RdF enc P W fs.toList 0 row G):Rd enc P W t row G:=fun hd n cs x hx hw=>by
 cases n with
 |zero=>simp[DataW.trod]at hx
 |succ n=>
  simp only[DataW.trod,ht]at hx
  split at hx
  ·rename_i hl
   simp only[Option.map_eq_some_iff]at hx
   obtain⟨ys,hm,rfl⟩:=hx
   obtain⟨a,a1,a2,a3⟩:=h hd n cs ys hm (by simpa [DataW.weights,ht]using hw)
   rw[List.drop_zero, ←hc, ←hl,List.take_length]at a2 a3
   exact⟨a,a1,a2,a3⟩
  ·cases hx
end
theorem c1F:E6 AHeap.empty:=by
 have hg:∀k,AHeap.empty.get k=none:=fun k=>by simp[AHeap.empty,AHeap.get,Trie.get]
 exact⟨fun k _=>hg k,fun k p o op h=>(by rw[hg]at h;cases h),fun k o p h=>(by rw[hg]at h;cases h),fun k o p h=>(by rw[hg]at h;cases h)⟩
theorem c7N(E:i9):A1 E (fun _=>none) b8.none AHeap.empty:=A1.start c1F
theorem c8u{P:Program}{f:FuncId}{W:World}{vs:Array Value}{ds:List D}(h:j6 P (a4z W) (d5D W) f ds b8.none fun v _=>v= .bool true)(ha:A0 (a4z W) (fun _=>none) ds (vs.toList.map d2l)):Calls P f vs W fun e w=>e= .returned (.bool true)∧b9m W w:=by
 refine d0J (FnW.weak (w:=W) (fun v H ⟨_,_,_,_,_,_,_,hf⟩=>hf.elim) (FnW.mono (h _ AHeap.empty _ c1F (c7N _) ha) fun v H' hq=> ?_))
 obtain⟨_,R',S',d,_,_,h3,rfl⟩:=hq
 simpa only[Rp]using h3
end Go.Am.Old
end
