/-
  BlocksJoinSaid: part Obc of its proof.
-/
import Derived.Test.YtdkidgkiplcggaaObb
import Derived.Test.YtdkidgkiplcggaaOav
import Derived.Test.YtdkidgkiplcggaaRows
set_option linter.unusedVariables false
set_option linter.unusedSimpArgs false
set_option maxRecDepth 100000
section
open Go Go.Am
namespace Go.Am.Old
open Go.ChangeShapes Go.WideShapes Go.ChangeAt Go.RowKit
def Rd{H:Type}(enc:TypeId×Value→H)(P:Program)(W:World)(t:TypeId){α:Type}(row:α→List D)(a0U:α→Prop):Prop:=
 ∀(hd:Bool) (n:Nat) (cs:List Value) (x:DataW H×List MemPlace),DataW.trod enc P W 0 (fun _=>true) hd n t cs=some x→(∀k∈DataW.weights P t x.1,k≤reachBytes)→
  ∃a,a0U a∧(∀R,o4 (X8 W) R (row a) (cs.map a0s))∧(cs.map a0s).all i9=true
def b5B(P:Program):List Field→Nat
 | []=>0
 |f::fs=>P.cellsOf f.type+b5B P fs
def RdF{H:Type}(enc:TypeId×Value→H)(P:Program)(W:World)(fs:List Field)(o:Nat){α:Type}(row:α→List D)(a0U:α→Prop):Prop:=
 ∀(hd:Bool) (n:Nat) (cs:List Value) (ys:List (DataW H×List MemPlace)),(fs.mapM fun f=>DataW.trod enc P W 0 (fun _=>true) hd n f.type ((cs.drop f.offset).take (P.cellsOf f.type)))=some ys→
  (∀k∈DataW.weightsEach P (fs.map (·.type)) (ys.map (·.1)),k≤reachBytes)→
  ∃a,a0U a∧(∀R,o4 (X8 W) R (row a) (((cs.drop o).take (b5B P fs)).map a0s))∧(((cs.drop o).take (b5B P fs)).map a0s).all i9=true
section
variable{H:Type}{enc:TypeId×Value→H}{P:Program}{W:World}
theorem Rd.map{t:TypeId}{α β:Type}{row:α→List D}{a0U:α→Prop}{row':β→List D}{Good':β→Prop}(h:Rd enc P W t row a0U)(g:α→β)(hr:∀a,row' (g a)=row a)(hg:∀a,a0U a→Good' (g a)):Rd enc P W t row' Good':=fun hd n cs x h1 h2=>by
 obtain⟨a,a1,a2,a3⟩:=h hd n cs x h1 h2
 exact⟨g a,hg a a1,fun R=>by rw[hr];exact a2 R,a3⟩
theorem Rd.int{t:TypeId}{k:IntKind}(ht:P.underlying t=some (.int k)):Rd enc P W t (fun z:Int=>[.int k z]) (fun z=>(Lit.int k z).wf=true):=fun hd n cs x h _=>c4i ht h
theorem Rd.i64{t:TypeId}(ht:P.underlying t=some (.int .i64)):Rd enc P W t (fun z:Int=>[.int .i64 z]) (fun z=> -9223372036854775808≤z∧z≤9223372036854775807):=(Rd.int ht).map id (fun _=>rfl) fun _ h=>c4h h
theorem Rd.u8{t:TypeId}(ht:P.underlying t=some (.int .u8)):Rd enc P W t (fun z:Int=>[.int .u8 z]) (fun z=>0≤z∧z≤255):=(Rd.int ht).map id (fun _=>rfl) fun _ h=>c5w h
theorem Rd.bool{t:TypeId}(ht:P.underlying t=some .bool):Rd enc P W t (fun b:Bool=>[.bool b]) (fun _=>True):=fun hd n cs x h _=>by
 cases n with
 |zero=>simp[DataW.trod]at h
 |succ n=>
  simp only[DataW.trod,ht]at h
  split at h
  all_goals (first|(cases h;done)|skip)
  all_goals simp_all
  rename_i b
  have:∃b':Bool,(∀R,o4 (X8 W) R [D.bool b'] [a0s (Value.bool b)]):=⟨b,fun R=>by simp only[o4,Rp];exact⟨_,_,rfl,rfl,rfl⟩⟩
  obtain⟨b',hb⟩:=this
  refine⟨?_,rfl⟩
  cases b'
  ·exact .inl hb
  ·exact .inr hb
theorem Rd.str{t:TypeId}(ht:P.underlying t=some .string):Rd enc P W t (fun s:List UInt8=>[.str s]) (fun s=>s.length<2^47):=fun hd n cs x h hw=>by
 cases n with
 |zero=>simp[DataW.trod]at h
 |succ n=>
  simp only[DataW.trod,ht]at h
  split at h
  all_goals (first|(cases h;done)|skip)
  all_goals simp_all
  rename_i s
  obtain⟨h1,rfl⟩:=h
  have:=reachBytes_lt
  refine⟨s.data.toList, ?_,fun R=> ?_,rfl⟩
  ·have:=hw s.data.toList.length (by simp[DataW.weights])
   omega
  simp only[o4,Rp]
  exact⟨_,_,rfl,rfl,rfl⟩
theorem Rd.slice{t e:TypeId}{sz b:Nat}{α:Type}[Inhabited α]{row:α→List D}{a0U:α→Prop}(ht:P.underlying t=some (.slice e))(hc:P.cellsOf e=sz)(hsz:0<sz)(hb:P.bytesOf e=b)(hrow:∀a,(row a).length=sz)(h:Rd enc P W e row a0U):
  Rd enc P W t (fun l:List α=>[.lst (l.map row) sz]) (fun l=>l.length*b<2^47∧∀a∈l,a0U a):=fun hd n cs x hx hw=>by
 obtain⟨c,l,rfl,h1,h2,h3,h4⟩:=c1Z ht hc hsz hrow hx fun m vs d hd' hk=>h hd m vs d hd' fun k hk'=>hw k (hk k hk')
 have:=reachBytes_lt
 refine⟨l,⟨?_,h1⟩,fun R=> ?_,by simp[h3]⟩
 ·rcases h4 with rfl|⟨k,k1,k2⟩
  ·show 0*b<2^47;omega
  ·have:=hw k k1
   rw[hb]at k2
   omega
 ·simp only[List.map_cons,List.map_nil,o4]
  exact⟨_,_,rfl,h2 R,rfl⟩
theorem RdF.nil{o:Nat}:RdF enc P W [] o (fun _:Unit=>[]) (fun _=>True):=fun hd n cs ys h _=>⟨(),trivial,fun R=>by simp[b5B,o4],by simp[b5B]⟩
theorem RdF.cons{f:Field}{fs:List Field}{o s:Nat}{α β:Type}{row1:α→List D}{G1:α→Prop}{row2:β→List D}{G2:β→Prop}(ho:f.offset=o)(hs:P.cellsOf f.type=s)(h1:Rd enc P W f.type row1 G1)(h2:RdF enc P W fs (o+s) row2 G2):
  RdF enc P W (f::fs) o (fun p:α×β=>row1 p.1++row2 p.2) (fun p=>G1 p.1∧G2 p.2):=fun hd n cs ys h hw=>by
 simp only[List.mapM_cons,Option.bind_eq_bind,Option.bind_eq_some_iff]at h
 obtain⟨y,hy,ys',hys,h⟩:=h
 cases h
 simp only[List.map_cons,DataW.weightsEach,List.mem_append]at hw
 obtain⟨a,a1,a2,a3⟩:=h1 hd n _ y hy fun k hk=>hw k (.inl hk)
 obtain⟨b,b1,b2,b3⟩:=h2 hd n cs ys' hys fun k hk=>hw k (.inr hk)
 rw[ho,hs]at a2 a3
 have e:((cs.drop o).take (b5B P (f::fs))).map a0s=((cs.drop o).take s).map a0s++((cs.drop (o+s)).take (b5B P fs)).map a0s:=by
  rw[b5B,hs,List.take_add,List.map_append,List.drop_drop]
 exact⟨(a,b),⟨a1,b1⟩,fun R=>by rw[e];exact(a2 R).append (b2 R),by rw[e,List.all_append,a3,b3];rfl⟩
theorem Rd.struct{t:TypeId}{fs:Array Field}{α:Type}{row:α→List D}{G:α→Prop}(ht:P.underlying t=some (.struct fs))(hc:P.cellsOf t=b5B P fs.toList)(h:RdF enc P W fs.toList 0 row G):Rd enc P W t row G:=fun hd n cs x hx hw=>by
 cases n with
 |zero=>simp[DataW.trod]at hx
 |succ n=>
  simp only[DataW.trod,ht]at hx
  split at hx
  ·rename_i hl
   simp only[Option.map_eq_some_iff]at hx
   obtain⟨ys,hm,rfl⟩:=hx
   obtain⟨a,a1,a2,a3⟩:=h hd n cs ys hm (by simpa [DataW.weights,ht]using hw)
   rw[List.drop_zero, ←hc, ←hl,List.take_length]at a2 a3
   exact⟨a,a1,a2,a3⟩
  ·cases hx
end
theorem Rd.arg1{H:Type}{enc:TypeId×Value→H}{P:Program}{W:World}{t:TypeId}{α:Type}{c:α→D}{G:α→Prop}(h:Rd enc P W t (fun a=>[c a]) G){v:Value}(hc:v.cells.toList=[v])(ho:b7E v=a0s v)
  {d:DataW H} {ps:List MemPlace} (h0:DataW.Trod enc P W 0 (fun _=>true) true t v d ps) (hw:∀k∈DataW.weights P t d,k≤reachBytes):∃a,G a∧∀R,Rp (X8 W) R (c a) (b7E v):=by
 obtain⟨n,hn⟩:=h0
 obtain⟨a,a1,a2,a3⟩:=h true n _ _ hn hw
 refine⟨a,a1,fun R=> ?_⟩
 have:=a2 R
 rw[hc,List.map_cons,List.map_nil]at this
 simp only[o4]at this
 obtain⟨x,xs,e,h1,_⟩:=this
 cases e
 rw[ho]
 exact h1
theorem Rd.argL{H:Type}{enc:TypeId×Value→H}{P:Program}{W:World}{t e:TypeId}{α:Type}{c:α→D}{G:α→Prop}(h:Rd enc P W t (fun a=>[c a]) G){r:Reach}{b0:Nat}{v:Value}(hv:Value.okWide P W r b0 t v)(ht:P.underlying t=some (.slice e))
  {d:DataW H} {ps:List MemPlace} (h0:DataW.Trod enc P W 0 (fun _=>true) true t v d ps) (hw:∀k∈DataW.weights P t d,k≤reachBytes):∃a,G a∧∀R,Rp (X8 W) R (c a) (b7E v):=by
 obtain⟨a,l,k,rfl⟩:=okWide_slice ht hv
 exact h.arg1 rfl rfl h0 hw
theorem b2l:w9 AHeap.empty:=by
 have hg:∀k,AHeap.empty.get k=none:=fun k=>by simp[AHeap.empty,AHeap.get,Trie.get]
 exact⟨fun k _=>hg k,fun k p o op h=>(by rw[hg]at h;cases h),fun k o p h=>(by rw[hg]at h;cases h),fun k o p h=>(by rw[hg]at h;cases h)⟩
theorem b8J(E:d6):n9 E (fun _=>none) b5.none AHeap.empty:=n9.start b2l
theorem b8T{P:Program}{f:FuncId}{W:World}{vs:Array Value}{ds:List D}(h:r7 P (X8 W) (c5s W) f ds b5.none fun v _=>v= .bool true)(ha:o4 (X8 W) (fun _=>none) ds (vs.toList.map b7E)):Calls P f vs W fun e w=>e= .returned (.bool true)∧b0C W w:=by
 refine c0s (FnW.weak (w:=W) (fun v H ⟨_,_,_,_,_,_,_,hf⟩=>hf.elim) (FnW.mono (h _ AHeap.empty _ b2l (b8J _) ha) fun v H' hq=> ?_))
 obtain⟨_,R',S',d,_,_,h3,rfl⟩:=hq
 simpa only[Rp]using h3
end Go.Am.Old
end
section
open Go.Proofs Go Go.Am Go.Op Go.Am.Old
namespace Go.Proofs.Ytdkidgkiplcggaa.d
instance:Inhabited Ty:=⟨⟨0,[],[],0,0⟩⟩
instance:Inhabited Ro:=⟨⟨[],[],[],0,0,[]⟩⟩
section
variable{H:Type}{enc:TypeId×Value→H}{W:World}
abbrev RdP(enc:TypeId×Value→H)(W:World)(t:TypeId){α:Type}(row:α→List D)(a0U:α→Prop):Prop:=Rd enc Try.prog W t row a0U
theorem b7o:RdP enc W 22 (fun l:List Int=>[bD l]) (fun l=>l.length<2^47∧∀n∈l,J5 n):=
 (Rd.slice (sz:=1) Try.underlying22 (by kernel_rfl) (by decide) (b:=1) (by kernel_rfl) (fun _=>rfl) (Rd.u8 Try.underlying5)).map id (fun l=>by simp[bD,U6,Function.comp_def]) fun l h=>⟨by have:=h.1;simp only[id]at*;omega,h.2⟩
end
end Go.Proofs.Ytdkidgkiplcggaa.d
end
