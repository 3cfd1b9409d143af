/-
  ImageSpoiltSaid: part Pbe of its proof.
-/
import Derived.Test.YtchnpgddpaonhaaPbd
import Derived.Test.YtchnpgddpaonhaaPaw
import Derived.Test.YtchnpgddpaonhaaPbc
set_option linter.unusedVariables false
set_option linter.unusedSimpArgs false
set_option maxRecDepth 100000
section
open Go.Proofs Go Go.Am Go.Op
namespace Go.Proofs.Ytchnpgddpaonhaa.d
section
theorem Ps.rep_ok{α:Type}{g:Ps α}:∀ {n p:Nat} {l:List α} {q:Nat},Ps.rep g n p= .ok (l,q)→l.length=n∧∀a∈l,∃p q,g p= .ok (a,q)
 |0,p,l,q,h=>by
  cases h
  exact⟨rfl,fun a ha=>by simp at ha⟩
 |n+1,p,l,q,h=>by
  rw[Ps.rep]at h
  obtain⟨a,q1,h1,h2⟩:=Ps.of_bind h
  obtain⟨l',q2,h3,h4⟩:=Ps.of_bind h2
  cases h4
  obtain⟨e1,e2⟩:=Ps.rep_ok h3
  refine⟨by simp[e1],fun b hb=> ?_⟩
  rcases List.mem_cons.1 hb with rfl|hb
  ·exact⟨p,q1,h1⟩
  ·exact e2 b hb
section
variable{bs:List Int}{p q:Nat}
theorem b4B{n:Int}(h:a6s bs p= .ok (n,q)):0≤n∧n≤2147483647:=by
 unfold a6s at h
 simp only at h
 split at h
 ·cases h
 ·split at h
  ·cases h
  ·split at h
   ·cases h
   ·cases h;omega
theorem c4X{n:Int}{l:List Int}(h:b4l bs n p= .ok (l,q)):l=(bs.drop p).take n.toNat∧q=p+n.toNat∧n≤(bs.length:Int) - p:=by
 unfold b4l at h
 split at h
 ·cases h
 ·cases h;exact⟨rfl,rfl,by omega⟩
theorem b2N{most:Int}{s:Tx}(h:a4Q bs most p= .ok (s,q)):(s.length:Int)≤most:=by
 unfold a4Q at h
 obtain⟨n,q1,h1,h2⟩:=Ps.of_bind h
 obtain⟨l,q2,h3,h4⟩:=Ps.of_bind h2
 cases h4
 have hr:=F6 h1
 obtain⟨rfl,_,_⟩:=c4X h3
 simp only[a8U,List.length_map,List.length_take]
 omega
theorem c6n{most:Int}{l:List Int}(h:b3D bs most p= .ok (l,q)):(l.length:Int)≤most∧∀n∈l,I64 n:=by
 unfold b3D at h
 obtain⟨n,q1,h1,h2⟩:=Ps.of_bind h
 obtain⟨e1,e2⟩:=Ps.rep_ok h2
 have hr:=F6 h1
 refine⟨by omega,fun m hm=> ?_⟩
 obtain⟨p',q',h'⟩:=e2 m hm
 have:=b4B h'
 exact⟨by omega,by omega⟩
theorem c9l(hb:∀b∈bs,H6 b){t:Ty}(h:b3S bs p= .ok (t,q)):t.Ok∧t.fields.length<2^30:=by
 unfold b3S at h
 obtain⟨k,q1,h1,h2⟩:=Ps.of_bind h
 obtain⟨rfl,_,_⟩:=c4X h1
 obtain⟨y,hy⟩:∃y,((bs.drop p).take (1:Int).toNat).headD 0=y:=⟨_,rfl⟩
 rw[hy]at h2
 have i0:I64 0:=⟨by omega,by omega⟩
 have num:∀ {n:Int} {p q:Nat},a6s bs p= .ok (n,q)→I64 n:=fun h=>by
  have:=b4B h;exact⟨by omega,by omega⟩
 unfold a8g at h2
 split at h2
 ·obtain⟨s,q2,h3,h4⟩:=Ps.of_bind h2
  obtain⟨n,q3,h5,h6⟩:=Ps.of_bind h4
  obtain⟨fs,q4,h7,h8⟩:=Ps.of_bind h6
  cases h8
  have hs:=b2N h3
  have hr:=F6 h5
  obtain⟨e1,e2⟩:=Ps.rep_ok h7
  refine⟨⟨by simp,by simp only;omega,by simp only;omega,fun f hf=> ?_,i0,i0⟩,by simp only;omega⟩
  obtain⟨p',q',h'⟩:=e2 f hf
  unfold b3k at h'
  obtain⟨z,q5,h9,h10⟩:=Ps.of_bind h'
  obtain⟨u,q6,h11,h12⟩:=Ps.of_bind h10
  cases h12
  have:=b2N h9
  exact⟨by simp only;omega,num h11⟩
 ·split at h2
  ·obtain⟨a,q2,h3,h4⟩:=Ps.of_bind h2
   obtain⟨b,q3,h5,h6⟩:=Ps.of_bind h4
   cases h6
   exact⟨⟨by simp,by simp,by simp,fun f hf=>by simp at hf,num h3,num h5⟩,by simp⟩
  ·split at h2
   ·obtain⟨a,q2,h3,h4⟩:=Ps.of_bind h2
    cases h4
    exact⟨⟨by simp,by simp,by simp,fun f hf=>by simp at hf,num h3,i0⟩,by simp⟩
   ·cases h2
theorem d1q(hb:∀b∈bs,H6 b){r:Ro}(h:b5o bs p= .ok (r,q)):r.Ok∧r.params.length<2^30∧r.results.length<2^30∧r.code.length<2^30:=by
 have num:∀ {n:Int} {p q:Nat},a6s bs p= .ok (n,q)→I64 n:=fun h=>by
  have:=b4B h;exact⟨by omega,by omega⟩
 unfold b5o at h
 obtain⟨s,q1,h1,h⟩:=Ps.of_bind h
 obtain⟨a,q2,h2,h⟩:=Ps.of_bind h
 obtain⟨b,q3,h3,h⟩:=Ps.of_bind h
 obtain⟨l,q4,h4,h⟩:=Ps.of_bind h
 obtain⟨k,q5,h5,h⟩:=Ps.of_bind h
 obtain⟨n,q6,h6,h⟩:=Ps.of_bind h
 obtain⟨c,q7,h7,h⟩:=Ps.of_bind h
 cases h
 have t1:=b2N h1
 obtain⟨l2,i2⟩:=c6n h2
 obtain⟨l3,i3⟩:=c6n h3
 have hr:=F6 h6
 obtain⟨rfl,_,_⟩:=c4X h7
 have lc:((bs.drop q6).take n.toNat).length≤n.toNat:=List.length_take_le _ _
 refine⟨⟨by simp only;omega,by simp only;omega,by simp only;omega,fun m hm=> ?_,num h4,num h5, ?_, ?_⟩,by simp only;omega,by simp only;omega,by simp only;omega⟩
 ·rcases List.mem_append.1 hm with hm|hm
  ·exact i2 m hm
  ·exact i3 m hm
 ·first|(simp only;omega)|exact fun b h=>hb b (List.mem_of_mem_drop (List.mem_of_mem_take h))
 ·first|exact fun b h=>hb b (List.mem_of_mem_drop (List.mem_of_mem_take h))|(simp only;omega)
theorem c3i(hb:∀b∈bs,H6 b){m:Mo}(h:a9r bs p= .ok (m,q)):m.Fits:=by
 unfold a9r at h
 obtain⟨n1,q1,h1,h⟩:=Ps.of_bind h
 obtain⟨ts,q2,h2,h⟩:=Ps.of_bind h
 obtain⟨n3,q3,h3,h⟩:=Ps.of_bind h
 obtain⟨xs,q4,h4,h⟩:=Ps.of_bind h
 obtain⟨n5,q5,h5,h⟩:=Ps.of_bind h
 obtain⟨fs,q6,h6,h⟩:=Ps.of_bind h
 unfold b9f at h
 split at h
 ·cases h
 cases h
 have r1:=F6 h1
 have r3:=F6 h3
 have r5:=F6 h5
 obtain⟨l2,e2⟩:=Ps.rep_ok h2
 obtain⟨l4,e4⟩:=Ps.rep_ok h4
 obtain⟨l6,e6⟩:=Ps.rep_ok h6
 refine⟨⟨by simp only;omega,by simp only;omega,by simp only;omega,fun t ht=> ?_,fun t ht=> ?_,fun r hr=> ?_⟩,by simp only;omega,by simp only;omega,by simp only;omega,fun t ht=> ?_,fun r hr=> ?_⟩
 ·obtain⟨p',q',h'⟩:=e2 t ht;exact(c9l hb h').1
 ·obtain⟨p',q',h'⟩:=e4 t ht;have:=b2N h';omega
 ·obtain⟨p',q',h'⟩:=e6 r hr;exact(d1q hb h').1
 ·obtain⟨p',q',h'⟩:=e2 t ht;exact(c9l hb h').2
 ·obtain⟨p',q',h'⟩:=e6 r hr;exact(d1q hb h').2
end
end
section
def a3h(m:Mo):List Int×Int:=
 if C7 m≠0 then([],C7 m) else if 2097140<(A8 m).length then([],3)
 else([84,82,77,1]++(B9 (A8 m).length 4++(A8 m++B9 (M1 (A8 m)) 4)),0)
theorem b2h{α:Type}{f:α→Int}:∀ {l:List α},P7 f l=0→∀a∈l,f a=0
 | [],_,a,h=>by cases h
 |b::l,h,a,ha=>by
  rw[P7]at h
  split at h
  ·rename_i hb
   rcases List.mem_cons.1 ha with rfl|ha
   ·exact hb
   ·exact b2h h a ha
  ·rename_i hb;exact(hb h).elim
theorem b5T{m:Mo}(h:C7 m=0):(m.types.length≤256∧m.texts.length≤32768∧m.funcs.length≤256)∧(∀t∈m.types,a7f t=false∧W6 m t=true)∧(∀t∈m.texts,t.length≤65536)∧(∀r∈m.funcs,a2W r=false∧a2L m r=true):=by
 unfold C7 at h
 split at h
 ·cases h
 rename_i h0
 split at h
 ·rename_i h1;exact(h1 h).elim
 rename_i h1
 split at h
 ·cases h
 rename_i h2
 have h1:P7 (a4R m) m.types=0:=Classical.not_not.1 h1
 refine⟨by omega,fun t ht=> ?_,fun t ht=> ?_,fun r hr=> ?_⟩
 ·have:=b2h h1 t ht
  unfold a4R at this
  split at this
  ·cases this
  ·rename_i g1
   split at this
   ·rename_i g2;exact⟨by simpa using g1,g2⟩
   ·cases this
 ·have h2:(m.texts.any fun t=>decide (t.length>65536))=false:=by simpa using h2
  have:=List.any_eq_false.1 h2 t ht
  simp at this;exact this
 ·have:=b2h h r hr
  unfold a8n at this
  split at this
  ·cases this
  ·rename_i g1
   split at this
   ·rename_i g2;exact⟨by simpa using g1,g2⟩
   ·cases this
theorem c1v{t:Ty}(h:a7f t=false):t.name.length≤65536∧t.fields.length≤32∧∀f∈t.fields,f.1.length≤65536:=by
 unfold a7f at h
 simp only[Bool.or_eq_false_iff,decide_eq_false_iff_not,List.any_eq_false,decide_eq_true_eq]at h
 exact⟨by omega,by omega,fun f hf=>by have:=h.2 f hf;omega⟩
theorem b9B{r:Ro}(h:a2W r=false):r.name.length≤65536∧r.params.length≤32∧r.results.length≤8∧r.code.length≤65536∧r.locals≤256∧r.stack≤4096:=by
 unfold a2W at h
 simp only[Bool.or_eq_false_iff,decide_eq_false_iff_not]at h
 omega
theorem d0X{m:Mo}(h:C7 m=0):m.Brief:=by
 obtain⟨_,h1,h2,h3⟩:=b5T h
 exact⟨fun t ht=>c1v (h1 t ht).1,h2,fun r hr=>by have:=b9B (h3 r hr).1;omega⟩
section
variable{E:m6}{w0:o3}
theorem b7x{m:Mo}(hm:m.Fits){S:b7}:o4 Try.prog E w0 a0W [moD m] S fun d S'=>∃v,d= .tup [v, .int .i64 (a3h m).2]∧b6j S v (a3h m).1 S':=by
 refine b5e ?_
 unfold b1R
 rw[moD,clA,oD]
 intro k a n
 have c0:w9 (S.set k ⟨3,[moC m],a⟩) k 3 (moC m):=w9.new
 have hle:S.le (S.set k ⟨3,[moC m],a⟩):=b7.le_new n
 rw[show(moC m).length=3 from rfl]
 generalize S.set k ⟨3,[moC m],a⟩=S1 at*
 have lm:j0 S1 3 (.ptr k 0)=some (moD m):=c0.all (by decide) rfl
 rw[lm,oD]
 refine(a6d hm).use ?_
 rw[c9m,oD,M6]
 have none:∀e:Int,a3h m=([],e)→d9 E (fun d S'=>∃v,d= .tup [v, .int .i64 (a3h m).2]∧b6j S v (a3h m).1 S') (.tup [.nilSlc, .int .i64 e]) S1:=fun e he=>by
  rw[he]
  exact d9.less hle (d9.here ⟨.nilSlc,rfl,Grw.nil _ _⟩)
 refine⟨fun h=>none _ (by unfold a3h;rw[if_pos h]),fun h=> ?_⟩
 have h0:C7 m=0:=Classical.not_not.1 h
 rw[lm,oD]
 refine(c2h hm (d0X h0)).use ?_
 rintro v T ⟨rfl,L,hw,rfl⟩
 rw[L9,oD,a3z,oD,M6]
 have hL:=hw.len
 refine⟨fun hgt=>none _ ?_,fun hgt=> ?_⟩
 ·have:2097140<(A8 m).length:=by
   rcases hw with ⟨_,rfl⟩|⟨h,_⟩<;>omega
  unfold a3h;rw[if_neg (by rw[h0];simp),if_pos this]
 have hgt:¬2097140<L.length:=by omega
 have hLb:L=A8 m:=by
  rcases hw with ⟨_,rfl⟩|⟨_,h⟩
  ·rfl
  ·omega
 subst hLb
 have he:a3h m=([84,82,77,1]++(B9 (A8 m).length 4++(A8 m++B9 (M1 (A8 m)) 4)),0):=by
  unfold a3h;rw[if_neg (by rw[h0];simp),if_neg hgt]
 rw[show p9 1 (List.replicate 4 [D.int .u8 0]) [(0, .int .u8 84),(1, .int .u8 82),(2, .int .u8 77),(3, .int .u8 1)]=some (u4 (([84,82,77,1]:List Int).map (D.int .u8))) from rfl]
 simp only[u6,oD]
 refine .inr fun k2 a2 n2=> ?_
 simp only[c3k,b7.set_same]
 rw[if_pos (by decide)]
 refine .inr ⟨⟨by trivial,by decide,by decide⟩, ?_⟩
 rw[b7.erase_set _ _ _ n2]
 have e4:(D.lst (((u4 (([84,82,77,1]:List Int).map (D.int .u8))).drop 0).take 4) 1)=bD [84,82,77,1]:=rfl
 rw[e4]
 simp only[L9,oD,cvI]
 refine(a3P (s:=4) (by decide) (by decide)).use ?_
 refine(b7K (by omega)).use ?_
 rw[cvI,oD]
 refine(a3P (s:=4) (by decide) (by decide)).use ?_
 rw[b1U,b1U,b6E _ (by decide),b6E _ (by decide)]
 have hl4:p9 1 (List.replicate 4 [D.nilSlc]) [(0,bD [84,82,77,1]),(1,bD (B9 (A8 m).length 4)),(2,bD (A8 m)),(3,bD (B9 (M1 (A8 m)) 4))]=some ([[84,82,77,1],B9 (A8 m).length 4,A8 m,B9 (M1 (A8 m)) 4].map fun b=>[bD b]):=rfl
 have hnew:c8m T 1 ([[84,82,77,1],B9 (A8 m).length 4,A8 m,B9 (M1 (A8 m)) 4].map fun b=>[bD b]) 4 4 true (fun v24 S25=>o4 Try.prog E w0 L0 [v24] S25 fun v26 S27=>d9 E (fun d S'=>∃v,d= .tup [v, .int .i64 (a3h m).2]∧b6j S v (a3h m).1 S') (.tup [v26, .int .i64 0]) S27):=by
  refine .inl ?_
  show o4 Try.prog E w0 L0 [b2e [[84,82,77,1],B9 (A8 m).length 4,A8 m,B9 (M1 (A8 m)) 4]] T _
  refine(c7Z (by simp[s8];omega) (by simp)).use fun v S27 hg=> ?_
  have:([[84,82,77,1],B9 (A8 m).length 4,A8 m,B9 (M1 (A8 m)) 4]:List (List Int)).flatten=[84,82,77,1]++(B9 (A8 m).length 4++(A8 m++B9 (M1 (A8 m)) 4)):=by simp
  rw[this]at hg
  rcases hg with hg|⟨e,_⟩
  ·obtain⟨S',s1,s2⟩:=hg.base hle
   exact d9.less s1 (d9.here ⟨v,by rw[he],by rw[he];exact s2⟩)
  ·simp[u4]at e
 simpa only[hl4,oD]using hnew
theorem b0x{m:Mo}(hm:m.Fits):Y7 Try.prog E w0 a0W [moD m] (.tup [bD (a3h m).1, .int .i64 (a3h m).2]):=fun S=>(b7x hm).fin fun d S' ⟨v,e,hg⟩=>by
 subst e
 exact d9.grwT (pre:=[]) (post:=[.int .i64 (a3h m).2]) hg d9.pure
end
end
section
def d3H(t:Ty):Prop:=t.Ok∧((t.kind=6∧t.elem=0∧t.len=0)∨(t.kind=7∧t.name=[]∧t.fields=[])∨(t.kind=8∧t.name=[]∧t.fields=[]∧t.len=0))
theorem d0Z{m:Mo}{t:Ty}(ht:t.Ok)(h:W6 m t=true):d3H t:=by
 refine⟨ht, ?_⟩
 unfold W6 b7X at h
 split at h
 ·rename_i k
  simp only[Bool.and_eq_true,decide_eq_true_eq]at h
  exact .inl ⟨k,h.1.1,h.1.2⟩
 split at h
 ·rename_i k
  simp only[Bool.and_eq_true,decide_eq_true_eq]at h
  exact .inr (.inl ⟨k,h.1.1.1,List.length_eq_zero_iff.1 h.1.1.2⟩)
 split at h
 ·rename_i k
  simp only[Bool.and_eq_true,decide_eq_true_eq]at h
  exact .inr (.inr ⟨k,h.1.1.1,List.length_eq_zero_iff.1 h.1.1.2,h.2⟩)
 ·cases h
theorem b5E(l:List Int):(a8U l).length=l.length:=by simp[a8U]
theorem c2E:∀(f n:Nat),n<256*128^f→∀b∈a4c f n,H6 b
 |0,n,h,b,hb=>by
  simp only[a4c,List.mem_singleton]at hb
  subst hb
  exact⟨by omega,by omega⟩
 |f+1,n,h,b,hb=>by
  rw[a4c]at hb
  split at hb
  ·simp only[List.mem_singleton]at hb
   subst hb
   exact⟨by omega,by omega⟩
  ·rcases List.mem_cons.1 hb with rfl|hb
   ·exact⟨by omega,by omega⟩
   ·rw[Nat.pow_succ]at h
    exact c2E f _ (by omega) b hb
theorem a0C{n:Int}:∀b∈F7 n,H6 b:=c2E 9 _ (by omega)
theorem d2B{s:Tx}:∀b∈bytesOf s,H6 b:=fun b hb=>by
 simp only[bytesOf,List.mem_map]at hb
 obtain⟨x,_,rfl⟩:=hb
 have:=x.toNat_lt
 exact⟨by omega,by omega⟩
def H8(l:List Int):Prop:=∀b∈l,H6 b
theorem H8.app{l m:List Int}(h:H8 l)(k:H8 m):H8 (l++m):=fun b hb=>(List.mem_append.1 hb).elim (h b) (k b)
theorem H8.flat{α:Type}{f:α→List Int}{l:List α}(h:∀a∈l,H8 (f a)):H8 (l.flatMap f):=fun b hb=>by
 obtain⟨a,ha,hb⟩:=List.mem_flatMap.1 hb
 exact h a ha b hb
theorem a8i{s:Tx}:H8 (X1 s):=H8.app a0C d2B
theorem d2P{t:Ty}(h:t.Ok):H8 (tyB t):=fun b hb=>by
 unfold tyB at hb
 rcases List.mem_cons.1 hb with rfl|hb
 ·exact h.kind
 ·have:H8 (if t.kind=6 then X1 t.name++(F7 t.fields.length++t.fields.flatMap b0T) else F7 t.elem++if t.kind=7 then F7 t.len else[]):=by
   split
   ·exact a8i.app (H8.app a0C (H8.flat fun f _=>a8i.app a0C))
   ·refine H8.app a0C ?_
    split
    ·exact a0C
    ·intro b hb;cases hb
  exact this b hb
theorem c2X{l:List Int}:H8 (a4E l):=H8.app a0C (H8.flat fun _ _=>a0C)
theorem b6S{m:Mo}(h:m.Ok):H8 (A8 m):=by
 unfold A8
 refine H8.app a0C (H8.app (H8.flat fun t ht=>d2P (h.ty t ht)) (H8.app a0C (H8.app (H8.flat fun _ _=>a8i) (H8.app a0C (H8.flat fun r hr=> ?_)))))
 unfold roB
 exact a8i.app (c2X.app (c2X.app (H8.app a0C (H8.app a0C a8i))))
theorem c9F{m:Mo}(h:m.Ok):H8 (a3h m).1:=by
 unfold a3h
 split
 ·intro b hb;cases hb
 split
 ·intro b hb;cases hb
 ·refine H8.app (fun b hb=> ?_) (H8.app (a6x _ _) ((b6S h).app (a6x _ _)))
  simp only[List.mem_cons,List.mem_nil_iff,or_false]at hb
  unfold H6;omega
end
section
theorem c6E:∀(f n k i acc:Nat) (rest:List Int),n<128^k→0<k→k≤f+1→i+k≤9→(0<i→0<n)→a8k (a4c f n++rest) i acc=(acc+n*2^(7*i),i+(a4c f n).length,0)
 |0,n,k,i,acc,rest,h,hk,hkf,hi,h0=>by
  have:k=1:=by omega
  subst this
  rw[a4c,List.singleton_append,a8k,if_neg (by omega),if_pos (by omega)]
  simp only[List.length_singleton,Int.toNat_natCast,Nat.mod_eq_of_lt (by omega:n<128)]
 |f+1,n,k,i,acc,rest,h,hk,hkf,hi,h0=>by
  rw[a4c]
  by_cases hn:n<128
  ·rw[if_pos hn,List.singleton_append,a8k,if_neg (by omega),if_pos (by omega)]
   simp only[List.length_singleton,Int.toNat_natCast,Nat.mod_eq_of_lt hn]
  ·rw[if_neg hn,List.cons_append,a8k,if_neg (by omega),if_neg (by omega)]
   obtain⟨k,rfl⟩:∃k',k=k'+2:=⟨k - 2,by
    rcases k with _|_|k
    ·omega
    ·omega
    ·omega⟩
   rw[c6E f (n / 128) (k+1) (i+1) _ rest (by rw[Nat.pow_succ]at h;exact Nat.div_lt_of_lt_mul (by rw[Nat.mul_comm];exact h)) (by omega) (by omega) (by omega) (fun _=>by omega)]
   have e1:((n % 128+128:Nat):Int).toNat % 128=n % 128:=by rw[Int.toNat_natCast];omega
   rw[e1]
   have e2:2^(7*(i+1))=128*2^(7*i):=by rw[show 7*(i+1)=7+7*i by omega,Nat.pow_add]
   rw[e2]
   simp only[List.length_cons,Prod.mk.injEq,and_true]
   refine⟨?_,by omega⟩
   have e3:n*2^(7*i)=(n % 128+128*(n / 128))*2^(7*i):=by rw[Nat.mod_add_div]
   rw[e3,Nat.add_mul,Nat.mul_comm 128 (n / 128), ←Nat.mul_assoc,Nat.add_assoc]
def Rb{α:Type}(bs:List Int)(g:Ps α)(a:α)(l:List Int):Prop:=∀p rest,p≤bs.length→bs.drop p=l++rest→g p= .ok (a,p+l.length)
section
variable{bs:List Int}{α β:Type}
theorem Rb.ret(a:α):Rb bs (Ps.ret a) a []:=fun p rest _ _=>rfl
theorem Rb.bind{g:Ps α}{f:α→Ps β}{a:α}{b:β}{l l':List Int}(h:Rb bs g a l)(h':Rb bs (f a) b l'):Rb bs (g.bind f) b (l++l'):=fun p rest hp hd=>by
 rw[List.append_assoc]at hd
 rw[Ps.bind_ok (h p _ hp hd)]
 have hlen:=congrArg List.length hd
 simp only[List.length_drop,List.length_append]at hlen
 rw[h' (p+l.length) rest (by omega) (by rw[←List.drop_drop,hd,List.drop_left]),List.length_append,Nat.add_assoc]
theorem Rb.map{g:Ps α}{f:α→β}{a:α}{l:List Int}(h:Rb bs g a l):Rb bs (g.bind fun a=>Ps.ret (f a)) (f a) l:=fun p rest hp hd=>by
 rw[Ps.bind_ok (h p rest hp hd)];rfl
theorem Rb.rep{g:Ps α}{f:α→List Int}:∀ {l:List α},(∀a∈l,Rb bs g a (f a))→Rb bs (Ps.rep g l.length) l (l.flatMap f)
 | [],_=>Rb.ret []
 |a::l,h=>by
  rw[List.length_cons,Ps.rep,List.flatMap_cons]
  exact Rb.bind (h a (by simp)) (Rb.map (Rb.rep fun b hb=>h b (List.mem_cons_of_mem _ hb)))
theorem Rb.num{n:Int}(h0:0≤n)(h1:n≤2147483647):Rb bs (a6s bs) n (F7 n):=fun p rest hp hd=>by
 have e:(n % 18446744073709551616).toNat=n.toNat:=by omega
 unfold a6s
 rw[hd]
 unfold F7 d0t
 rw[e,c6E 9 n.toNat 5 0 0 rest (by omega) (by decide) (by decide) (by decide) (fun h=>absurd h (by decide))]
 simp only[Nat.mul_zero,Nat.pow_zero,Nat.mul_one,Nat.zero_add]
 rw[if_neg (by decide),if_neg (by decide),if_neg (by omega)]
 rw[Int.toNat_of_nonneg h0]
theorem Rb.count{n most:Int}(h0:0≤n)(h1:n≤2147483647)(h2:n≤most):Rb bs (P1 bs most) n (F7 n):=fun p rest hp hd=>by
 unfold P1
 rw[Ps.bind_ok (Rb.num h0 h1 p rest hp hd),if_neg (by omega)]
theorem Rb.oct{l:List Int}{n:Int}(h:n=l.length):Rb bs (b4l bs n) l l:=fun p rest hp hd=>by
 subst h
 unfold b4l
 have hlen:=congrArg List.length hd
 simp only[List.length_drop,List.length_append]at hlen
 rw[if_neg (by omega),hd,Int.toNat_natCast,List.take_left]
theorem d3i(s:Tx):a8U (bytesOf s)=s:=by
 induction s with
 |nil=>rfl
 |cons b s ih=>
  simp only[a8U,bytesOf,List.map_cons,List.map_map]at ih ⊢
  rw[ih]
  simp
theorem a9w{l:List Int}(h:∀b∈l,H6 b):bytesOf (a8U l)=l:=by
 induction l with
 |nil=>rfl
 |cons b l ih=>
  simp only[a8U,bytesOf,List.map_cons]at ih ⊢
  rw[ih fun c hc=>h c (List.mem_cons_of_mem _ hc)]
  obtain⟨h0,h1⟩:=h b (by simp)
  congr 1
  have:(UInt8.ofNat b.toNat).toNat=b.toNat:=by
   rw[UInt8.toNat_ofNat'];omega
  rw[this];omega
theorem Rb.text{s:Tx}{most:Int}(h:(s.length:Int)≤most)(hs:s.length≤2147483647):Rb bs (a4Q bs most) s (X1 s):=by
 have e:bytesOf s=bytesOf s:=rfl
 refine Rb.bind (Rb.count (by omega) (by omega) h) ?_
 have:=Rb.map (f:=a8U) (Rb.oct (bs:=bs) (l:=bytesOf s) (n:=(s.length:Int)) (by simp[bytesOf]))
 rwa [d3i]at this
theorem Rb.nums{l:List Int}{most:Int}(h:(l.length:Int)≤most)(hl:l.length≤2147483647)(hn:∀n∈l,0≤n∧n≤2147483647):Rb bs (b3D bs most) l (a4E l):=
 Rb.bind (Rb.count (by omega) (by omega) h) (Rb.rep fun n h=>Rb.num (hn n h).1 (hn n h).2)
theorem Rb.fld{f:Tx×Int}(h:f.1.length≤65536)(hn:0≤f.2∧f.2≤2147483647):Rb bs (b3k bs) f (b0T f):=
 Rb.bind (Rb.text (by omega) (by omega)) (Rb.map (f:=fun t=>(f.1,t)) (Rb.num hn.1 hn.2))
structure d3z (t:Ty):Prop where
 fix:d3H t
 name:t.name.length≤65536
 fields:t.fields.length≤32
 names:∀f∈t.fields,f.1.length≤65536∧0≤f.2∧f.2≤2147483647
 elem:0≤t.elem∧t.elem≤2147483647
 len:0≤t.len∧t.len≤2147483647
theorem c9k(p:Nat):b3S bs p=((b4l bs 1).bind fun k=>a8g bs p (k.headD 0)) p:=rfl
theorem Rb.one{t:Ty}(h:d3z t):Rb bs (b3S bs) t (tyB t):=fun p rest hp hd=>by
 rw[c9k]
 obtain⟨⟨ok,hf⟩,h1,h2,h3,h4,h5⟩:=h
 have key:∀ {l:List Int},Rb bs (a8g bs p t.kind) t l→tyB t=t.kind::l→((b4l bs 1).bind fun k=>a8g bs p (k.headD 0)) p= .ok (t,p+(tyB t).length):=fun{l} hk e=>by
  rw[e]at hd ⊢
  exact Rb.bind (l:=[t.kind]) (l':=l) (Rb.oct (l:=[t.kind]) rfl) hk p rest hp hd
 obtain⟨kind,name,fields,elem,len⟩:=t
 simp only at*
 rcases hf with ⟨rfl,rfl,rfl⟩|⟨rfl,rfl,rfl⟩|⟨rfl,rfl,rfl,rfl⟩
 ·refine key (l:=X1 name++(F7 fields.length++fields.flatMap b0T)) ?_ rfl
  rw[c4n]
  refine Rb.bind (Rb.text (by omega) (by omega)) (Rb.bind (Rb.count (by omega) (by omega) (by omega)) ?_)
  exact Rb.map (f:=fun fs=>(⟨6,name,fs,0,0⟩:Ty)) (Rb.rep fun f hm=>Rb.fld (h3 f hm).1 (h3 f hm).2)
 ·refine key (l:=F7 elem++F7 len) ?_ rfl
  rw[c4B]
  exact Rb.bind (Rb.num h4.1 h4.2) (Rb.map (f:=fun b=>(⟨7,[],[],elem,b⟩:Ty)) (Rb.num h5.1 h5.2))
 ·refine key (l:=F7 elem++[]) ?_ rfl
  rw[c4f,List.append_nil]
  exact Rb.map (f:=fun a=>(⟨8,[],[],a,0⟩:Ty)) (Rb.num h4.1 h4.2)
structure d3G (r:Ro):Prop where
 name:r.name.length≤65536
 params:r.params.length≤32
 results:r.results.length≤8
 ints:∀n∈r.params++r.results,0≤n∧n≤2147483647
 locals:0≤r.locals∧r.locals≤2147483647
 stack:0≤r.stack∧r.stack≤2147483647
 code:r.code.length≤65536
 bytes:∀b∈r.code,H6 b
theorem Rb.ro{r:Ro}(h:d3G r):Rb bs (b5o bs) r (roB r):=by
 obtain⟨h1,h2,h3,h4,h5,h6,h7,h8⟩:=h
 obtain⟨name,params,results,locals',stack,code⟩:=r
 simp only at*
 unfold b5o roB
 simp only
 refine Rb.bind (Rb.text (by omega) (by omega)) (Rb.bind (Rb.nums (by omega) (by omega) fun n h=>h4 n (List.mem_append_left _ h)) (Rb.bind (Rb.nums (by omega) (by omega) fun n h=>h4 n (List.mem_append_right _ h)) (Rb.bind (Rb.num h5.1 h5.2) (Rb.bind (Rb.num h6.1 h6.2) ?_))))
 unfold X1
 rw[b5E,a9w h8]
 exact Rb.bind (Rb.count (by omega) (by omega) (by omega)) (Rb.map (f:=fun c=>(⟨name,params,results,locals',stack,c⟩:Ro)) (Rb.oct rfl))
structure d3I (m:Mo):Prop where
 types:m.types.length≤256
 texts:m.texts.length≤32768
 funcs:m.funcs.length≤256
 ty:∀t∈m.types,d3z t
 tx:∀t∈m.texts,t.length≤65536
 ro:∀r∈m.funcs,d3G r
theorem a7K{m:Mo}{t:Int}(h:m.types.length≤256)(ht:Q5 m t=true):0≤t∧t≤2147483647:=by
 unfold Q5 at ht
 simp only[Bool.or_eq_true,decide_eq_true_eq]at ht
 omega
theorem d2e{m:Mo}(hm:m.Ok)(h:C7 m=0):d3I m:=by
 obtain⟨⟨l1,l2,l3⟩,h1,h2,h3⟩:=b5T h
 refine⟨l1,l2,l3,fun t ht=> ?_,h2,fun r hr=> ?_⟩
 ·obtain⟨a,b⟩:=h1 t ht
  obtain⟨n1,n2,n3⟩:=c1v a
  have fx:=d0Z (hm.ty t ht) b
  unfold W6 b7X at b
  refine⟨fx,n1,n2,fun f hf=>⟨n3 f hf, ?_⟩, ?_, ?_⟩
  ·split at b
   ·simp only[Bool.and_eq_true,decide_eq_true_eq,List.all_eq_true]at b
    exact a7K l1 (b.2 f hf)
   ·split at b
    ·simp only[Bool.and_eq_true,decide_eq_true_eq]at b
     have:=List.length_eq_zero_iff.1 b.1.1.2
     rw[this]at hf;cases hf
    ·split at b
     ·simp only[Bool.and_eq_true,decide_eq_true_eq]at b
      have:=List.length_eq_zero_iff.1 b.1.1.2
      rw[this]at hf;cases hf
     ·cases b
  ·split at b
   ·simp only[Bool.and_eq_true,decide_eq_true_eq]at b;omega
   ·split at b
    ·simp only[Bool.and_eq_true,decide_eq_true_eq]at b;exact a7K l1 b.1.2
    ·split at b
     ·simp only[Bool.and_eq_true,decide_eq_true_eq]at b;exact a7K l1 b.1.2
     ·cases b
  ·split at b
   ·simp only[Bool.and_eq_true,decide_eq_true_eq]at b;omega
   ·split at b
    ·simp only[Bool.and_eq_true,decide_eq_true_eq]at b;omega
    ·split at b
     ·simp only[Bool.and_eq_true,decide_eq_true_eq]at b;omega
     ·cases b
 ·obtain⟨a,b⟩:=h3 r hr
  obtain⟨n1,n2,n3,n4,n5,n6⟩:=b9B a
  unfold a2L at b
  simp only[Bool.and_eq_true,decide_eq_true_eq,Bool.not_eq_true',decide_eq_false_iff_not,List.all_eq_true]at b
  obtain⟨⟨⟨⟨⟨b1,b2⟩,b3⟩,b4⟩,_⟩,_⟩:=b
  refine⟨n1,n2,n3,fun n hn=> ?_,by omega,by omega,n4,(hm.ro r hr).bytes⟩
  rcases List.mem_append.1 hn with hn|hn
  ·exact a7K l1 (b1 n hn)
  ·exact a7K l1 (b2 n hn)
theorem c9B{m:Mo}(h:d3I m){p:Nat}(hp:p≤bs.length)(hd:bs.drop p=A8 m):a9r bs p= .ok (m,bs.length):=by
 obtain⟨h1,h2,h3,h4,h5,h6⟩:=h
 have hlen:=congrArg List.length hd
 simp only[List.length_drop]at hlen
 have ebs:bs.length=p+(A8 m).length:=by omega
 have hend:∀ {a:Mo} {q:Nat},q=bs.length→b9f bs a q= .ok (a,q):=fun h=>by unfold b9f;rw[if_neg (by omega)]
 obtain⟨types,texts,funcs⟩:=m
 simp only at*
 have main:Rb bs ((P1 bs 256).bind fun n=>(Ps.rep (b3S bs) n.toNat).bind fun ts=>(P1 bs 32768).bind fun n=>(Ps.rep (a4Q bs 65536) n.toNat).bind fun xs=>(P1 bs 256).bind fun n=>(Ps.rep (b5o bs) n.toNat).bind fun fs=>Ps.ret (⟨ts,xs,fs⟩:Mo)) ⟨types,texts,funcs⟩ (A8 ⟨types,texts,funcs⟩):=by
  unfold A8
  simp only
  refine Rb.bind (Rb.count (by omega) (by omega) (by omega)) ?_
  rw[Int.toNat_natCast]
  refine Rb.bind (Rb.rep fun t ht=>Rb.one (h4 t ht)) (Rb.bind (Rb.count (by omega) (by omega) (by omega)) ?_)
  rw[Int.toNat_natCast]
  refine Rb.bind (Rb.rep fun t ht=>Rb.text (by have:=h5 t ht;omega) (by have:=h5 t ht;omega)) (Rb.bind (Rb.count (by omega) (by omega) (by omega)) ?_)
  rw[Int.toNat_natCast]
  exact Rb.map (f:=fun fs=>(⟨types,texts,fs⟩:Mo)) (Rb.rep fun r hr=>Rb.ro (h6 r hr))
 have hm:=main p [] hp (by rw[hd,List.append_nil])
 rw[←ebs]at hm
 unfold a9r
 obtain⟨n1,q1,g1,hm⟩:=Ps.of_bind hm
 obtain⟨ts,q2,g2,hm⟩:=Ps.of_bind hm
 obtain⟨n3,q3,g3,hm⟩:=Ps.of_bind hm
 obtain⟨xs,q4,g4,hm⟩:=Ps.of_bind hm
 obtain⟨n5,q5,g5,hm⟩:=Ps.of_bind hm
 obtain⟨fs,q6,g6,hm⟩:=Ps.of_bind hm
 rw[Ps.bind_ok g1,Ps.bind_ok g2,Ps.bind_ok g3,Ps.bind_ok g4,Ps.bind_ok g5,Ps.bind_ok g6]
 simp only[Ps.ret,Except.ok.injEq,Prod.mk.injEq]at hm
 obtain⟨e1,e2⟩:=hm
 rw[hend e2,e1,e2]
end
end
section
theorem d9.freezeA{E:m6}{Q:D→b7→Prop}{S:b7}{k:Nat}{o:L7}(hk:S k=some o){i len cap:Nat}{ex:Bool}{sz:Nat}(hsz:o.sz=sz)(hl:i+len≤o.rows.length)(hc:len≤cap){lp lq:List D}
  (h:d9 E Q (.agg (lp++ .lst ((o.rows.drop i).take len) sz::lq)) (S.erase k)):d9 E Q (.agg (lp++ .raw k i len cap ex sz::lq)) S:=fun R H v hC hd=>by
 obtain⟨h1,h2⟩:=hC.freeze hk
 simp only[Rp]at hd
 obtain⟨vs,rfl,hv,hsc⟩:=hd
 obtain⟨v1,v2,rfl,g1,g2⟩:=a3E hv
 simp only[A3]at g2
 obtain⟨w,ws,rfl,g3,g4⟩:=g2
 have hf:=a5m hC hk g3 hsz hl hc
 obtain⟨R',S',d',a,b,c,e⟩:=h _ H (.agg (v1++w::ws)) h1 (by
  simp only[Rp]
  exact⟨_,rfl,(A3.le h2 _ _ g1).append (A2 hf (A3.le h2 _ _ g4)),hsc⟩)
 exact⟨R',S',d',Fz.le_trans h2 a,b,c,e⟩
theorem b6p{E:m6}{S0 S:b7}{t:D}{rows:List (List D)}{sz:Nat}(h:Grw S0 t rows sz S){Q:D→b7→Prop}{lp lq:List D}(hq:d9 E Q (.agg (lp++ .lst rows sz::lq)) S0):d9 E Q (.agg (lp++t::lq)) S:=by
 rcases h with ⟨rfl,rfl,rfl⟩|⟨k,acs,h0,rfl,rfl⟩
 ·exact d9.weak (Wk.agg (by
   have:∀(l r:List D),WkL (l++ .nilSlc::r) (l++ .lst [] sz::r):=fun l r=>by
    induction l with
    |nil=>exact⟨Wk.nil _,WkL.refl _⟩
    |cons a l ih=>exact⟨Wk.refl _,ih⟩
   exact this lp lq)) hq
 ·refine d9.freezeA (b7.set_same _ _ _) rfl (by simp) (Nat.le_refl _) ?_
  rw[b7.erase_set _ _ _ h0]
  simpa using hq
theorem b2J{S0 S:b7}{t:D}{rows:List (List D)}{sz:Nat}(h:Grw S0 t rows sz S):r7 t=some [t]:=by
 rcases h with ⟨rfl,_,_⟩|⟨k,acs,_,rfl,_⟩<;>rfl
section
variable{E:m6}{w0:o3}
theorem c1C{l:List Int}{d:D}(hl:l.length<2^40)(he:c6d d .nilSlc=some false)(hr:∀S,rowsS S 1 d=some (u4 (l.map (D.int .u8)))){S:b7}:o4 Try.prog E w0 a3Q [d] S fun d' S'=>d'=bD l∧S'=S:=by
 refine a8r ?_
 unfold a7y
 rw[he,eqE,oD,cdF]
 cases l with
 |nil=>
  refine M7 (rows:=[]) rfl ?_
  simp only[y9,hr,a4P]
  rw[if_pos (by simp[u4])]
  exact d9.pure
 |cons a l=>
  refine c3C (rows:=[]) fun k acs n=> ?_
  simp only[y9,hr,a4P]
  rw[if_neg (by simp[u4]),b7.set_same]
  simp only
  rw[if_pos ⟨by trivial,by trivial,by simp⟩]
  simp only[List.length_cons]at hl
  refine⟨by simp;omega, .inl ?_⟩
  rw[b7.erase_set _ _ _ n]
  have e:(((([]:List (List D)).drop 0).take 0++u4 ((a::l).map (D.int .u8))).take (0+(u4 ((a::l).map (D.int .u8))).length))=u4 ((a::l).map (D.int .u8)):=by
   rw[List.take_of_length_le (by simp)];rfl
  rw[e]
  exact d9.pure
theorem c0n{l:List Int}(hl:l.length<2^40):Y7 Try.prog E w0 a3Q [bD l] (bD l):=fun S=>by
 cases l with
 |nil=>
  refine DF.split (pre:=[]) (post:=[]) (a8r ?_) (c1C (l:=[]) (by decide) rfl fun S=>by simp[rowsS,J5,u4])
  unfold a7y
  rw[show a9j .eql (c6d .nilSlc .nilSlc)=some (.bool true) from rfl,oD,cdT]
  exact d9.nil d9.pure
 |cons a l=>exact c1C hl rfl fun S=>b4L S _
section
variable{bs:List Int}(hb:∀b∈bs,H6 b)(hl:bs.length<2^30)
include hb hl
theorem b3v{most:Int}(hm:most≤2^20):b5D E w0 N8 [.int .i64 most] bs (b3D bs most) iD:=by
 intro S1 k p S hle n hp hS hX
 refine a6L ?_
 unfold a3a
 unfold b3D at hX
 refine(a0V hb hl).go hle n hp hS hX fun N q S' hN h1 h2 hS' hk hle' hX'=> ?_
 have hr:=F6 hN
 obtain⟨m,rfl⟩:∃m:Nat,N=(m:Int):=⟨N.toNat,by omega⟩
 simp only[Int.toNat_natCast]at hX'
 refine a4T (I:=fun r x0 x4 x7 x8 T=>x0= .ptr k 0∧x7= .int .i64 (m:Int)∧∃(acc:List Int) (q1:Nat) (B:b7),x8= .int .i64 (acc.length:Int)∧a9l (a6s bs) m q acc r q1∧q≤q1∧q1≤bs.length∧Grw B x4 (iC acc) 1 T∧RdC B k bs q1∧Q2 [k] S' B) ?_ (n:=m)
  ⟨rfl,rfl,[],q,S',rfl,a9l.start _ _ _,Nat.le_refl _,h2,Grw.nil _ _,hS',Q2.refl _ _⟩
 rintro r _ _ _ _ T ⟨rfl,rfl,acc,q1,B,rfl,hI,hq1,hq2,hg,hB,hkB⟩
 unfold U7
 rw[K3,oD,M6]
 have hlen:=hI.1
 refine⟨fun hlt=> ?_,fun hge=> ?_⟩
 ·obtain⟨r,rfl⟩:∃r',r=r'+1:=⟨r - 1,by omega⟩
  have hRT:RdC T k bs q1:=w9.le hB hg.le
  have hleB:S1.le B:=hkB.le hle' fun j hj=>by simp at hj;subst hj;exact n
  refine(R7 hb hl S1 k q1 T (b7.le_trans hleB hg.le) n hq2 hRT fun x S'' e hle=>hX' x S'' (hI.err e) hle).use fun v T' ⟨y,q2,e,h3,h4,hv,hR,hkT⟩=> ?_
  subst hv
  obtain⟨B',hg',hkB',hB'⟩:=a8b hg hkT fun j hj=>by simp at hj;subst hj;exact w9.there hB
  refine M7 (rows:=iC [y]) rfl ?_
  refine hg'.push (news:=iC [y]) (by simp[rowsS,J5]) ⟨by decide,by simp[iC];omega⟩ fun t' S'' hg''=> ?_
  rw[E2,oD,m7 (by omega) (by omega)]
  refine⟨r,by omega,rfl,rfl,acc++[y],q2,B',by simp,hI.step e,by omega,h4, ?_, ?_,hkB.trans hkB'⟩
  ·simpa [iC,u4]using hg''
  ·exact w9.of hR (hB' k (by simp))
 ·obtain rfl:r=0:=by omega
  refine hg.fin (d9.here ⟨acc,q1, ?_,by omega,hq2,rfl,hB,hk.trans hkB⟩)
  unfold b3D
  rw[Ps.bind_ok hN]
  exact hI.fin
end
structure St2 (S0 S1:b7) (k k2:Nat) (bs:List Int) (q sz:Nat) (c:List D) (S:b7):Prop where
 rd:RdC S k bs q
 cl:w9 S k2 sz c
 kp:Q2 [k,k2] S0 S
 le:S1.le S
section
variable{S0 S1 S S':b7}{k k2 q q' sz:Nat}{c:List D}{bs:List Int}
theorem St2.read(h:St2 S0 S1 k k2 bs q sz c S)(hne:k≠k2)(hr:RdC S' k bs q')(hk:Q2 [k] S S')(hle:S1.le S'):St2 S0 S1 k k2 bs q' sz c S':=
 ⟨hr,hk.cel (by simp;exact Ne.symm hne) h.cl,h.kp.trans (hk.more (by simp)),hle⟩
theorem St2.st(h:St2 S0 S1 k k2 bs q sz c S)(hne:k≠k2)(n2:S1 k2=none){i m:Nat}{v:D}{ds:List D}(hv:r7 v=some ds)(hn:ds.length=m∧0<m∧i+m≤c.length){K:D→b7→Prop}(hK:∀S',St2 S0 S1 k k2 bs q sz (o8 c i ds) S'→(∃a,S'=S.set k2 ⟨sz,[o8 c i ds],a⟩)→K b8 S'):f0 S m (.ptr k2 i) v K:=
 h.cl.st hv hn fun a=>hK _ ⟨w9.set_ne h.rd hne,w9.new,h.kp.trans (Q2.set (by simp) _ _),fun j o e=>by
  rw[b7.set_ne _ _ _ fun e'=>by rw[e',n2]at e;cases e];exact h.le _ _ e⟩ ⟨a,rfl⟩
theorem St2.new(hS:RdC S k bs q)(hle:S1.le S)(n2:S k2=none){a:List AV}:St2 S S1 k k2 bs q sz c (S.set k2 ⟨sz,[c],a⟩):=
 ⟨w9.set hS n2,w9.new,Q2.set (by simp) _ _,b7.le_set hle (b7.none_of hle n2)⟩
theorem St2.end(h:St2 S0 S1 k k2 bs q sz c S)(n2:S0 k2=none):RdC S k bs q∧Q2 [k] S0 S:=
 ⟨h.rd,h.kp.less fun j hj=>by simp at hj;rcases hj with rfl|rfl; ·exact .inl (by simp)
                              ·exact .inr n2⟩
end
section
variable{bs:List Int}(hb:∀b∈bs,H6 b)(hl:bs.length<2^30)
include hb hl
theorem d0x:b5D E w0 a2d [] bs (b3S bs) (fun t=> .agg (O4 t)):=by
 intro S1 k p S hle n hp hS hX
 refine b0I ?_
 unfold a6p
 intro k2 a2 n2
 have hne:k≠k2:=w9.none hS n2
 have n12:S1 k2=none:=b7.none_of hle n2
 have sa:=St2.new (k2:=k2) (sz:=5) (c:=[.int .u8 0, .str [], .nilSlc, .int .i64 0, .int .i64 0]) (a:=a2) hS hle n2
 show a9 (U4 (.ptr k 0)) _
 generalize S.set k2 ⟨5,[[.int .u8 0, .str [], .nilSlc, .int .i64 0, .int .i64 0]],a2⟩=Sa at sa ⊢
 have hca:w9 Sa k 2 [bD bs, .int .i64 (p:Int)]:=sa.rd
 simp only[ndP,I3,oD,hca.ld,List.getElem?_cons_zero,List.getElem?_cons_succ,Nat.zero_add]
 unfold b3S at hX
 refine(b0a hb hl (n:=1) (by decide) (by decide)).go sa.le n hp sa.rd hX fun kb q S6 hk1 h1 h2 hS6 hk6 hle6 hX6=> ?_
 obtain⟨y,rfl⟩:∃y,kb=[y]:=by
  unfold b4l at hk1
  split at hk1
  ·cases hk1
  ·rename_i hg
   cases hk1
   refine⟨bs[p]'(by omega), ?_⟩
   rw[show(1:Int).toNat=1 from rfl,List.drop_eq_getElem_cons (by omega:p<bs.length)]
   rfl
 have ey:A7 1 (bD [y]) (.int .i64 0)=some (.elt [.int .u8 y] 0):=b5G (i:=0) rfl
 rw[ey,oD,lsE,List.getElem?_cons_zero,oD]
 refine(sa.read hne hS6 hk6 hle6).st hne n12 (clI _ _) ⟨rfl,by simp,by simp⟩ fun S7 s7 _=> ?_
 replace s7:St2 S S1 k k2 bs q 5 [.int .u8 y, .str [], .nilSlc, .int .i64 0, .int .i64 0] S7:=s7
 simp only[s7.cl.ld,List.getElem?_cons_zero,oD,a4M]
 have ok:∀ {t:Ty} {c:List D} {q':Nat} {T:b7},St2 S S1 k k2 bs q' 5 c T→c.length=5→o8 c 0 c=c→Wk (.agg c) (.agg (O4 t))→q≤q'→q'≤bs.length→b3S bs p= .ok (t,q')→a9 (j0 T 5 (.ptr k2 0)) fun v=>f0 T 5 (.ptr k2 0) v fun v' S'=>a9 (j0 S' 5 (.ptr k2 0)) fun w=>d9 E (fun v S'=>∃y q,b3S bs p= .ok (y,q)∧p≤q∧q≤bs.length∧v= .agg (O4 y)∧RdC S' k bs q∧Q2 [k] S S') w S':=fun{t c q' T} st hc5 hcc w hq hq' e=>by
  rw[st.cl.all (n:=5) (by decide) hc5.symm,oD]
  refine st.st hne n12 (ds:=c) (clA _) ⟨hc5,by decide,by omega⟩ fun T' st' _=> ?_
  rw[hcc]at st'
  rw[st'.cl.all (n:=5) (by decide) hc5.symm,oD]
  obtain⟨e1,e2⟩:=st'.end n2
  exact d9.weak w ((d9.here ⟨t,q',e,by omega,hq',rfl,e1,e2⟩))
 have wk:∀ {kd a b:Int},Wk (.agg [.int .u8 kd, .str [], .nilSlc, .int .i64 a, .int .i64 b]) (.agg (O4 ⟨kd,[],[],a,b⟩)):=Wk.agg ⟨Wk.refl _,Wk.refl _,Wk.nil _,Wk.refl _,Wk.refl _,trivial⟩
 rw[M6]
 refine⟨fun h6=> ?_,fun h6=> ?_⟩
 ·subst h6
  change ∀x S'',a8g bs p 6 q= .error x→_ at hX6
  rw[c4n]at hX6
  refine(a8x hb hl).go s7.le n h2 s7.rd hX6 fun s q1 S8 hs h3 h4 hS8 hk8 hle8 hX8=> ?_
  refine(s7.read hne hS8 hk8 hle8).st hne n12 (clS _) ⟨rfl,by simp,by simp⟩ fun S9 s9 _=> ?_
  refine(a0V hb hl).go s9.le n h4 s9.rd hX8 fun N q2 S10 hN h5 h6 hS10 hk10 hle10 hX10=> ?_
  have s10:St2 S S1 k k2 bs q2 5 [.int .u8 6, .str s, .nilSlc, .int .i64 0, .int .i64 0] S10:=s9.read hne hS10 hk10 hle10
  have hr:=F6 hN
  obtain⟨m,rfl⟩:∃m:Nat,N=(m:Int):=⟨N.toNat,by omega⟩
  refine a7P (I:=fun r x0 x2 x25 x26 T=>x0= .ptr k 0∧x2= .ptr k2 0∧x25= .int .i64 (m:Int)∧∃(acc:List (Tx×Int)) (q3:Nat) (t:D) (B:b7),x26= .int .i64 (acc.length:Int)∧a9l (b3k bs) m q2 acc r q3∧q2≤q3∧q3≤bs.length∧Grw B t (acc.map a0d) 2 T∧St2 S S1 k k2 bs q3 5 [.int .u8 6, .str s,t, .int .i64 0, .int .i64 0] B) ?_ (n:=m)
   ⟨rfl,rfl,rfl,[],q2, .nilSlc,S10,rfl,a9l.start _ _ _,Nat.le_refl _,h6,Grw.nil _ _,s10⟩
  rintro r _ _ _ _ T ⟨rfl,rfl,rfl,acc,q3,t,B,rfl,hI,hq1,hq2,hg,sB⟩
  unfold a1e
  rw[K3,oD,M6]
  have hlen:=hI.1
  refine⟨fun hlt=> ?_,fun hge=> ?_⟩
  ·obtain⟨r,rfl⟩:∃r',r=r'+1:=⟨r - 1,by omega⟩
   have hXr:∀x S'',b3k bs q3= .error x→S1.le S''→a0S E w0 (b3F x) S'':=fun x S'' e hle=>hX10 x S'' (Ps.bind_err (hI.err e)) hle
   unfold b3k at hXr
   refine(a8x hb hl).go (b7.le_trans sB.le hg.le) n hq2 (w9.le sB.rd hg.le) hXr fun z q4 T1 hz h7 h8 hT1 hkT1 hleT1 hXz=> ?_
   obtain⟨B1,hg1,hkB1,hB1⟩:=a8b hg hkT1 fun j hj=>by simp at hj;subst hj;exact w9.there sB.rd
   have sB1:St2 S S1 k k2 bs q4 5 [.int .u8 6, .str s,t, .int .i64 0, .int .i64 0] B1:=sB.read hne (w9.of hT1 (hB1 k (by simp))) hkB1 (hkB1.le sB.le fun j hj=>by simp at hj;subst hj;exact n)
   have c1:w9 T1 k2 5 [.int .u8 6, .str s,t, .int .i64 0, .int .i64 0]:=w9.le sB1.cl hg1.le
   simp only[I3,oD,Nat.zero_add,c1.ld,List.getElem?_cons_zero,List.getElem?_cons_succ]
   refine(R7 hb hl).go hleT1 n h8 hT1 hXz fun u q5 T2 hu h9 h10 hT2 hkT2 hleT2 _=> ?_
   obtain⟨B2,hg2,hkB2,hB2⟩:=a8b hg1 hkT2 fun j hj=>by simp at hj;subst hj;exact w9.there sB1.rd
   have sB2:St2 S S1 k k2 bs q5 5 [.int .u8 6, .str s,t, .int .i64 0, .int .i64 0] B2:=sB1.read hne (w9.of hT2 (hB2 k (by simp))) hkB2 (hkB2.le sB1.le fun j hj=>by simp at hj;subst hj;exact n)
   have fw:t6 (.ptr k2 2) T1 T2:=hkT2.foot (by simp;exact Ne.symm hne) c1
   refine⟨fw, ?_⟩
   have hag:E6 (w6 [D.str [], .int .i64 0] [(0,1, .str z),(1,1, .int .i64 u)])=some (.agg (a0d (z,u))):=rfl
   rw[hag,oD]
   refine M7 (rows:=[a0d (z,u)]) rfl ⟨fw, ?_⟩
   refine hg2.push (news:=[a0d (z,u)]) (by simp[rowsS,J5]) ⟨by decide,by simp;omega⟩ fun t' T3 hg3=> ?_
   have s3:w9 T3 k2 5 [.int .u8 6, .str s,t, .int .i64 0, .int .i64 0]:=w9.le sB2.cl hg3.le
   obtain⟨a4,e4⟩:=sB2.cl
   refine s3.st (ds:=[t']) (b2J hg3) ⟨rfl,by simp,by simp⟩ fun a5=> ?_
   rw[E2,oD,m7 (by omega) (by omega)]
   have hgu:=hg3.upd (o:=⟨5,[[.int .u8 6, .str s,t', .int .i64 0, .int .i64 0]],a5⟩) e4
   refine⟨r,by omega,by trivial,by trivial,by trivial,acc++[(z,u)],q5,t',B2.set k2 ⟨5,[[.int .u8 6, .str s,t', .int .i64 0, .int .i64 0]],a5⟩,by simp,hI.step (a:=(z,u)) (q1:=q5) ?_,by omega,h10, ?_,⟨w9.set_ne sB2.rd hne,w9.new,sB2.kp.trans (Q2.set (by simp) _ _), ?_⟩⟩
   ·unfold b3k
    rw[Ps.bind_ok hz,Ps.bind_ok hu];rfl
   ·rw[List.map_append];exact hgu
   ·exact fun j o e=>by
     rw[b7.set_ne _ _ _ fun e'=>by rw[e',n12]at e;cases e];exact sB2.le _ _ e
  ·obtain rfl:r=0:=by omega
   have c1:w9 T k2 5 [.int .u8 6, .str s,t, .int .i64 0, .int .i64 0]:=w9.le sB.cl hg.le
   rw[c1.all (n:=5) (by decide) rfl,oD]
   refine c1.st (ds:=[.int .u8 6, .str s,t, .int .i64 0, .int .i64 0]) (clA _) ⟨rfl,by simp,by simp⟩ fun a5=> ?_
   obtain⟨a4,e4⟩:=sB.cl
   have hgu:=hg.upd (o:=⟨5,[[.int .u8 6, .str s,t, .int .i64 0, .int .i64 0]],a5⟩) e4
   have c2:w9 (T.set k2 ⟨5,[[.int .u8 6, .str s,t, .int .i64 0, .int .i64 0]],a5⟩) k2 5 [.int .u8 6, .str s,t, .int .i64 0, .int .i64 0]:=w9.new
   show a9 (j0 (T.set k2 ⟨5,[[.int .u8 6, .str s,t, .int .i64 0, .int .i64 0]],a5⟩) 5 (.ptr k2 0)) _
   rw[c2.all (n:=5) (by decide) rfl,oD]
   refine b6p (lp:=[.int .u8 6, .str s]) (lq:=[.int .i64 0, .int .i64 0]) hgu ?_
   have sB':St2 S S1 k k2 bs q3 5 [.int .u8 6, .str s,t, .int .i64 0, .int .i64 0] (B.set k2 ⟨5,[[.int .u8 6, .str s,t, .int .i64 0, .int .i64 0]],a5⟩):=⟨w9.set_ne sB.rd hne,w9.new,sB.kp.trans (Q2.set (by simp) _ _),fun j o e=>by
    rw[b7.set_ne _ _ _ fun e'=>by rw[e',n12]at e;cases e];exact sB.le _ _ e⟩
   obtain⟨e1,e2⟩:=sB'.end n2
   refine(d9.here ⟨⟨6,s,acc,0,0⟩,q3, ?_,by omega,hq2,rfl,e1,e2⟩)
   unfold b3S
   rw[Ps.bind_ok hk1]
   show a8g bs p 6 q=_
   rw[c4n,Ps.bind_ok hs,Ps.bind_ok hN,Int.toNat_natCast,Ps.bind_ok hI.fin];rfl
 rw[M6]
 refine⟨fun h7=> ?_,fun h7=> ?_⟩
 ·subst h7
  change ∀x S'',a8g bs p 7 q= .error x→_ at hX6
  rw[c4B]at hX6
  refine(R7 hb hl).go s7.le n h2 s7.rd hX6 fun a q1 S8 ha h3 h4 hS8 hk8 hle8 hX8=> ?_
  refine(s7.read hne hS8 hk8 hle8).st hne n12 (clI _ _) ⟨rfl,by simp,by simp⟩ fun S9 s9 _=> ?_
  refine(R7 hb hl).go s9.le n h4 s9.rd hX8 fun b q2 S10 hb' h5 h6' hS10 hk10 hle10 _=> ?_
  refine(s9.read hne hS10 hk10 hle10).st hne n12 (clI _ _) ⟨rfl,by simp,by simp[o8]⟩ fun S11 s11 _=> ?_
  refine ok (t:=⟨7,[],[],a,b⟩) (q':=q2) s11 rfl rfl wk (by omega) h6' ?_
  ·unfold b3S
   rw[Ps.bind_ok hk1]
   show a8g bs p 7 q=_
   rw[c4B,Ps.bind_ok ha,Ps.bind_ok hb'];rfl
 rw[M6]
 refine⟨fun h8=> ?_,fun h8=> ?_⟩
 ·subst h8
  change ∀x S'',a8g bs p 8 q= .error x→_ at hX6
  rw[c4f]at hX6
  refine(R7 hb hl).go s7.le n h2 s7.rd hX6 fun a q1 S8 ha h3 h4 hS8 hk8 hle8 hX8=> ?_
  refine(s7.read hne hS8 hk8 hle8).st hne n12 (clI _ _) ⟨rfl,by simp,by simp⟩ fun S9 s9 _=> ?_
  refine ok (t:=⟨8,[],[],a,0⟩) (q':=q1) s9 rfl rfl wk (by omega) h4 ?_
  ·unfold b3S
   rw[Ps.bind_ok hk1]
   show a8g bs p 8 q=_
   rw[c4f,Ps.bind_ok ha];rfl
 ·change ∀x S'',a8g bs p y q= .error x→_ at hX6
  rw[d0R bs p h6 h7 h8]at hX6
  exact hX6 ((p:Int),130) _ rfl s7.le
end
end
end
end Go.Proofs.Ytchnpgddpaonhaa.d
end
