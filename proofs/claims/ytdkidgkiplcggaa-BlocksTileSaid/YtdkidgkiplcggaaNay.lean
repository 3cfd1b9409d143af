/-
  BlocksTileSaid: part Nay of its proof.
-/
import Derived.Test.YtdkidgkiplcggaaNaw
import Derived.Test.YtdkidgkiplcggaaNax
set_option linter.unusedVariables false
set_option linter.unusedSimpArgs false
set_option maxRecDepth 100000
section
open Go.Proofs Go Go.Am Go.Op
namespace Go.Proofs.Ytdkidgkiplcggaa.d
section
set_option linter.unusedSectionVars false
theorem a8E{y:In}(ha:y.arms.length≤65535)(n:Int):(t8 y n).length≤65540:=by
 have hr:∀l:List Int,(a0r l).length≤l.length:=fun l=>by
  have:=Z5 (srt l);rw[a3M]at this;exact this
 unfold t8
 split
 ·simp
 ·split
  ·simp
  ·refine Nat.le_trans (hr _) ?_
   split
   ·simp
   ·split
    ·simp;omega
    ·simp
section
variable{E:d6}{w0:i9}
theorem Own.fin{S0 S:b4}{d:D}{l:List Int}(h:Own S0 d l S){Q:D→b4→Prop}(hq:b9 E Q (iD l) S0):b9 E Q d S:=by
 rcases h with ⟨rfl,rfl,rfl⟩|⟨k,acs,ex,h,rfl,rfl⟩
 ·exact b9.nil hq
 ·refine b9.freeze (b4.set_same _ _ _) rfl (by rw[i4];omega) (Nat.le_refl _) ?_
  rw[b4.erase_set _ _ _ h,List.drop_zero,List.take_of_length_le (by rw[i4];exact Nat.le_refl _)]
  exact hq
theorem Sl.rows{S0 T:b4}{av:List Nat}{d:D}{l:List Int}(h:Sl S0 av d l T):((d= .nilSlc∧l=[])∨c4d d .nilSlc=some false)∧∀T',T.le T'→rowsS T' 1 d=some (iC l):=by
 rcases h with ⟨rfl,rfl⟩|⟨k,cap,ex,rows,acs,h0,h1,rfl,h2,h3,h4⟩
 ·exact⟨.inl ⟨rfl,rfl⟩,fun T' _=>rfl⟩
 ·refine⟨.inr rfl,fun T' hle=> ?_⟩
  simp only[rowsS,F6,hle _ _ h2]
  rw[if_pos ⟨by trivial,by trivial,by have:=b3V h3;omega⟩,List.drop_zero,h3]
theorem c3Z{S0 S1 S:b4}{d:D}{l:List Int}{av:List Nat}(h:Own S1 d l S)(hle:S0.le S1)(hav:∀j∈av,S1 j≠none):Sl S0 av d l S:=by
 rcases h with ⟨rfl,rfl,rfl⟩|⟨k,acs,ex,h,rfl,rfl⟩
 ·exact .inl ⟨rfl,rfl⟩
 ·exact .inr ⟨k,l.length,ex,iC l,acs,b4.none_of hle h,fun hm=>hav k hm h,rfl,b4.set_same _ _ _,by rw[List.take_of_length_le (by rw[i4];exact Nat.le_refl _)],Nat.le_refl _⟩
end
end
section
set_option linter.unusedSectionVars false
theorem a7l{bs:List Int}:∀(n p:Nat) (e:Int),a1y bs n p= .error e→e≠0
 |0,p,e,h=>by cases h
 |n+1,p,e,h=>by
  by_cases hp:p<bs.length
  ·rw[a1a hp]at h
   by_cases he:(y9 bs p).2.2=0
   ·rw[if_pos he]at h
    cases hr:a1y bs n (y9 bs p).2.1 with
    |error e'=>rw[hr]at h;cases h;exact a7l n _ _ hr
    |ok l'=>rw[hr]at h;cases h
   ·rw[if_neg he]at h;cases h;exact he
  ·rw[a1y,if_pos (by omega)]at h;cases h
section
variable{E:d6}{w0:i9}
theorem StT.base{S0 S1 T:b4}{k:Nat}{l s:D}{f:Fr}(hle:S0.le S1)(hk0:S1 k=none)(hl:Sl S1 (k::ob s) l f.locals T)(hs:Sl S1 (k::ob l) s f.stack T):S0 k=none∧Sl S0 (k::ob s) l f.locals T∧Sl S0 (k::ob l) s f.stack T:=by
 have go:∀ {av d li},Sl S1 av d li T→Sl S0 av d li T:=fun h=>by
  rcases h with h|⟨k,cap,ex,rows,acs,z0,z1,z2,z3,z4⟩
  ·exact .inl h
  ·exact .inr ⟨k,cap,ex,rows,acs,b4.none_of hle z0,z1,z2,z3,z4⟩
 exact⟨b4.none_of hle hk0,go hl,go hs⟩
theorem b9y{S S':b4}(h:S.le S'){k:Nat}(hk:S k≠none):S' k=S k:=by
 cases e:S k with
 |none=>exact absurd e hk
 |some o=>exact h _ _ e
end
end
section
set_option linter.unusedSectionVars false
theorem a3O(l:List In):j9 (R8 l)=some (.int .i64 l.length):=by simp[R8]
def b0w(ys:List In)(ext:List Int)(i:Nat):List Int:=match ys[i]? with
 |some y=>if J3 y then t8 y (ext.getD (i+1) 0)++(if i+1<ys.length then[ext.getD (i+1) 0]else[]) else[]
 |none=>[]
def u4(ys:List In)(ext:List Int)(n:Nat):List Int:=0::(List.range n).flatMap (b0w ys ext)
theorem a0L(ys:List In)(ext:List Int)(n:Nat):u4 ys ext (n+1)=u4 ys ext n++b0w ys ext n:=by
 unfold u4
 rw[List.range_succ,List.flatMap_append]
 simp
section
variable{E:d6}{w0:i9}
theorem c5X{x0:D}{ys:List In}{ext:List Int}(he:ext.length=ys.length+1)(hyl:ys.length<2^40){k:Nat}{to:List Int}(htl:to.length<2^40){i:Nat}(hi:i<ys.length){N0:D→D→D→D→D→D→D→b4→Prop}{Q:D→b4→Prop}{S:b4}{ts:List (Int×Int×Nat)}(hm:I4 S k ts)
  (hN:∀ts' S',(∀n,n∈ts'.map (·.1)↔n∈ts.map (·.1)∨n∈to++(if i+1<ys.length then[ext.getD (i+1) 0]else[]))→I4 S' k ts'→(∀j,j≠k→S' j=S j)→N0 x0 (R8 ys) (iD ext) (.mp k) (R8 ys) (.int .i64 (ys.length:Int)) (.int .i64 ((i:Int)+1)) S'):
  d5 Try.prog E w0 (.loop a0h) (f0 173 [0,4,5,7,8,38,39,40,57,58,59] [x0,R8 ys,iD ext, .mp k, .int .i64 (i:Int),R8 ys, .int .i64 (ys.length:Int), .int .i64 (i:Int),iD to, .int .i64 (to.length:Int),(.int .i64 0)]) S (a0g E w0 N0 Q):=by
 refine a9o (I:=fun n y0 x4 x5 x7 x8 x38 x39 x40 x57 x58 x59 T=>x0=y0∧x4=R8 ys∧x5=iD ext∧x7= .mp k∧x8= .int .i64 (i:Int)∧x38=R8 ys∧x39= .int .i64 (ys.length:Int)∧x40= .int .i64 (i:Int)∧x57=iD to∧x58= .int .i64 (to.length:Int)∧
   ∃(j:Nat) (ts':List (Int×Int×Nat)),x59= .int .i64 (j:Int)∧j+n=to.length∧(∀m,m∈ts'.map (·.1)↔m∈ts.map (·.1)∨m∈to.take j)∧I4 T k ts'∧∀j,j≠k→T j=S j) ?_ (n:=to.length)
  ⟨rfl,rfl,rfl,rfl,rfl,rfl,rfl,rfl,rfl,rfl,0,ts,rfl,by omega,fun m=>by simp,hm,fun _ _=>rfl⟩
 rintro n _ _ _ _ _ _ _ _ _ _ _ T ⟨rfl,rfl,rfl,rfl,rfl,rfl,rfl,rfl,rfl,rfl,j,ts',rfl,hj,hkeys,hm',hsame⟩
 unfold a2I
 rw[a2X,oD,cdI]
 refine⟨fun hlt=> ?_,fun hge=> ?_⟩
 ·have hlt:j<to.length:=by omega
  have ht:to[j]? =some to[j]:=List.getElem?_eq_getElem hlt
  generalize to[j]=q at ht
  rw[a1S ht,oD,lsE,List.getElem?_cons_zero,oD]
  obtain⟨v,hv⟩:=hm'.look q
  rw[hv,oD,K9,oD]
  refine hm'.put fun ts2 T2 hk2 hm2 hs2=> ?_
  rw[K9,oD,g9 (by omega) (by omega)]
  refine⟨n - 1,by omega,by trivial,by trivial,by trivial,by trivial,by trivial,by trivial,by trivial,by trivial,by trivial,by trivial,j+1,ts2,by trivial,by omega,fun m=> ?_,hm2,fun j hj=>by rw[hs2 j hj,hsame j hj]⟩
  rw[hk2,hkeys,List.take_add_one,ht]
  simp
  constructor
  ·rintro(h|h|h)
   ·exact .inr (.inr h)
   ·exact .inl h
   ·exact .inr (.inl h)
  ·rintro(h|h|h)
   ·exact .inr (.inl h)
   ·exact .inr (.inr h)
   ·exact .inl h
 ·rw[List.take_of_length_le (by omega)]at hkeys
  simp only[K9,oD,a3O,a2X]
  rw[g9 (by omega) (by omega),cdI]
  refine⟨fun h1=> ?_,fun h1=> ?_⟩
  ·have h1:i+1<ys.length:=by omega
   have hx:ext[i+1]? =some (ext.getD (i+1) 0):=by rw[List.getD_eq_getElem?_getD,List.getElem?_eq_getElem (by omega)];rfl
   have hix:m9 1 (iD ext) (.int .i64 ((i:Int)+1))=some (.elt [.int .i64 (ext.getD (i+1) 0)] 0):=a1S hx
   rw[hix,oD,lsE,List.getElem?_cons_zero,oD]
   obtain⟨v,hv⟩:=hm'.look (ext.getD (i+1) 0)
   rw[hv,oD,K9,oD]
   refine hm'.put fun ts2 T2 hk2 hm2 hs2=>hN ts2 T2 (fun m=> ?_) hm2 fun j hj=>by rw[hs2 j hj,hsame j hj]
   rw[hk2,hkeys,if_pos h1]
   simp
   constructor
   ·rintro(h|h|h)
    ·exact .inr (.inr h)
    ·exact .inl h
    ·exact .inr (.inl h)
   ·rintro(h|h|h)
    ·exact .inr (.inl h)
    ·exact .inr (.inr h)
    ·exact .inl h
  ·exact hN ts' T (fun m=>by rw[hkeys,if_neg (by omega),List.append_nil]) hm' hsame
theorem c5E{x0:D}{ys:List In}{ext:List Int}(he:ext.length=ys.length+1)(hyl:ys.length<2^40)(harm:∀y∈ys,y.arms.length≤65535){k:Nat}{Q:D→b4→Prop}{S0 S:b4}{ts:List (Int×Int×Nat)}(hm:I4 S k ts)(hk0:S0 k=none)(hle:S0.le S)(hkeys:∀n,n∈ts.map (·.1)↔n=0)
  (hend:∀ts' S',(∀n,n∈ts'.map (·.1)↔n∈u4 ys ext ys.length)→I4 S' k ts'→S0.le S'→a6K S' (.mp k) fun v54 S55=>d5 Try.prog E w0 (.loop U2) (f0 173 [0,4,5,14,83] [x0,R8 ys,iD ext, .nilSlc,v54]) S55 (U9 E w0 Q)):
  d5 Try.prog E w0 (.loop a0j) (f0 173 [0,4,5,7,38,39,40] [x0,R8 ys,iD ext, .mp k,R8 ys, .int .i64 (ys.length:Int),(.int .i64 0)]) S (a0q E w0 Q):=by
 refine a8D (I:=fun n y0 x4 x5 x7 x38 x39 x40 T=>x0=y0∧x4=R8 ys∧x5=iD ext∧x7= .mp k∧x38=R8 ys∧x39= .int .i64 (ys.length:Int)∧
   ∃(i:Nat) (ts':List (Int×Int×Nat)),x40= .int .i64 (i:Int)∧i+n=ys.length∧(∀m,m∈ts'.map (·.1)↔m∈u4 ys ext i)∧I4 T k ts'∧S0.le T) ?_ (n:=ys.length)
  ⟨rfl,rfl,rfl,rfl,rfl,rfl,0,ts,rfl,by omega,fun m=>by rw[hkeys];simp[u4],hm,hle⟩
 rintro n _ _ _ _ _ _ _ T ⟨rfl,rfl,rfl,rfl,rfl,rfl,i,ts',rfl,hi,hks,hm',hle'⟩
 unfold a2s
 rw[a2X,oD,cdI]
 refine⟨fun hlt=> ?_,fun hge=> ?_⟩
 ·have hlt:i<ys.length:=by omega
  have hy:ys[i]? =some ys[i]:=List.getElem?_eq_getElem hlt
  have hmem:ys[i]∈ys:=List.getElem_mem hlt
  generalize ys[i]=y at hy hmem
  have hx:ext[i+1]? =some (ext.getD (i+1) 0):=by rw[List.getD_eq_getElem?_getD,List.getElem?_eq_getElem (by omega)];rfl
  have hix:m9 1 (iD ext) (.int .i64 ((i:Int)+1))=some (.elt [.int .i64 (ext.getD (i+1) 0)] 0):=a1S hx
  have hhd:b0w ys ext i=if J3 y then t8 y (ext.getD (i+1) 0)++(if i+1<ys.length then[ext.getD (i+1) 0]else[]) else[]:=by unfold b0w;rw[hy]
  rw[b2R hy,oD,laE,if_pos ⟨by decide,by simp[inC]⟩,oD]
  intro ka a na
  refine(H5.new (sz:=4) (c:=[.int .u8 0, .int .i64 0, .int .i64 0, .nilSlc])).st (ds:=inC y) (clA _) ⟨rfl,by decide,by simp[inC]⟩ fun c=> ?_
  rw[b4.set_set,show n8 [D.int .u8 0, .int .i64 0, .int .i64 0, .nilSlc] 0 (inC y)=inC y from rfl]
  have ca:H5 (T.set ka ⟨4,[inC y],c⟩) ka 4 (inC y):=H5.new
  have l1:S0.le (T.set ka ⟨4,[inC y],c⟩):=b4.le_trans hle' (b4.le_new na)
  have hne:k≠ka:=fun e=>by have:=hm'.there;rw[e,na]at this;exact this rfl
  have hm1:I4 (T.set ka ⟨4,[inC y],c⟩) k ts':=hm'.of (b4.set_ne _ _ _ hne)
  generalize (T.set ka ⟨4,[inC y],c⟩)=T1 at ca l1 hm1
  rw[ca.all (n:=4) (by decide) rfl,oD,K9,oD,g9 (by omega) (by omega),hix,oD,lsE,List.getElem?_cons_zero,oD]
  refine(show s4 Try.prog E w0 I6 [inD y, .int .i64 (ext.getD (i+1) 0)] T1 _ from(a4b (harm y hmem)).use ?_)
  simp only[exD,List.getElem?_cons_zero,List.getElem?_cons_succ,oD,unN]
  cases hen:J3 y with
  |false=>
   rw[Bool.not_false,cdT]
   refine⟨n - 1,by omega,by trivial,by trivial,by trivial,by trivial,by trivial,by trivial,i+1,ts',by trivial,by omega,fun m=> ?_,hm1,l1⟩
   rw[a0L,hhd,hen,hks];simp
  |true=>
   rw[Bool.not_true,cdF,a1q,oD]
   have hll:=a8E (harm y hmem) (ext.getD (i+1) 0)
   refine c5X he hyl (by omega) hlt hm1 fun ts2 T2 hk2 hm2 hs2=> ?_
   refine⟨n - 1,by omega,by trivial,by trivial,by trivial,by trivial,by trivial,by trivial,i+1,ts2,by trivial,by omega,fun m=> ?_,hm2,fun j o hj=> ?_⟩
   ·rw[hk2,a0L,hhd,hen,hks,if_pos rfl]
    simp only[List.mem_append]
   ·rw[hs2 j (fun e=>by rw[e,hk0]at hj;cases hj)];exact l1 _ _ hj
 ·have:i=ys.length:=by omega
  subst this
  exact hend ts' T hks hm' hle'
theorem a3k{α:Type}[DecidableEq α]:∀ {l1 l2:List α},l1.Nodup→(∀a∈l1,a∈l2)→l1.length≤l2.length
 | [],_,_,_=>Nat.zero_le _
 |a::l1,l2,h,hs=>by
  rw[List.nodup_cons]at h
  have ha:=hs a List.mem_cons_self
  have h1:=List.length_erase_of_mem ha
  have h2:=List.length_pos_of_mem ha
  have:=a3k h.2 (l2:=l2.erase a) fun b hb=>(List.mem_erase_of_ne (fun e=>h.1 (by rw[←e];exact hb))).2 (hs b (List.mem_cons_of_mem _ hb))
  rw[List.length_cons]
  omega
theorem b6w{l hs:List Int}(hn:l.Nodup)(h:∀n,n∈l↔n∈hs):srt l=a0r hs:=by
 refine Y6 ?_ (D1 hs).1 fun n=> ?_
 ·have h1:(srt l).Pairwise fun a b=>a≤b:=by
   have:=List.pairwise_mergeSort (le:=fun x y:Int=>decide (x≤y)) (fun a b c h1 h2=>by simp at*;omega) (fun a b=>by simp;omega) l
   exact this.imp fun h=>by simpa using h
  have h2:(srt l).Nodup:=(List.mergeSort_perm l _).nodup_iff.2 hn
  exact(h1.and h2).imp fun⟨a,b⟩=>by omega
 ·unfold srt
  rw[List.mem_mergeSort,h,(D1 hs).2]
theorem c1k{S0 S:b4}{av:List Nat}{d:D}{l:List Int}(h:X8 S0 av d (iC l) 1 S)(h0:l≠[])(hl:l.length<2^60){Q:D→b4→Prop}(hQ:∀v k acs S',S0 k=none→k ∉ av→d= .raw k 0 l.length l.length false 1→S' k=some ⟨1,iC (srt l),acs⟩→(∀j,j≠k→S' j=S j)→Q v S'):s4 Try.prog E w0 G4 [d] S Q:=by
 rcases h with ⟨_,e⟩|⟨k,acs,hk,hav,rfl,hS⟩
 ·exact absurd e (fun e=>h0 (by cases l with|nil=>rfl|cons a l=>simp[iC,W6]at e))
 ·refine b1w.fnD (zs:=l) hS rfl (by simp) (by rw[List.drop_zero,List.take_of_length_le (Nat.le_refl _),X2]) (by rw[i4];omega) fun acs'=> ?_
  refine hQ _ k acs' _ hk hav (by rw[i4]) ?_ fun j hj=>b4.set_ne _ _ _ hj
  rw[b4.set_same,List.take_zero,List.nil_append,Nat.zero_add,List.drop_of_length_le (Nat.le_refl _),List.append_nil,X2]
theorem c5Q{x0:D}{ys:List In}{ext hs:List Int}{m:Nat}{Q:D→b4→Prop}{S0 S:b4}{ts:List (Int×Int×Nat)}{j:Nat}(hw:a3l S j m [] ts)(hj0:S0 j=none)(hle:S0.le S)(hkn:(ts.map (·.1)).Nodup)(hst:(ts.map (·.2.2)).Nodup)(hks:∀n,n∈ts.map (·.1)↔n∈hs)(hne:hs≠[])(hlen:ts.length<2^40)
  (hend:∀k acs S',S0 k=none→S' k=some ⟨1,iC (a0r hs),acs⟩→S0.le S'→d5 Try.prog E w0 (.loop T9) (f0 173 [0,5,14,16,94,95,96] [x0,iD ext, .raw k 0 (a0r hs).length (a0r hs).length false 1, .nilSlc,R8 ys, .int .i64 (ys.length:Int),(.int .i64 0)]) S' (U6 E w0 Q)):
  d5 Try.prog E w0 (.loop U2) (f0 173 [0,4,5,14,83] [x0,R8 ys,iD ext, .nilSlc, .ptr j 0]) S (U9 E w0 Q):=by
 refine a8M (I:=fun n y0 x4 x5 x14 x83 T=>x0=y0∧x4=R8 ys∧x5=iD ext∧x83= .ptr j 0∧∃dn:List (Int×Int×Nat),dn.length+n=ts.length∧(∀t∈dn,t∈ts)∧dn.Nodup∧a3l T j m dn ts∧X8 S0 [j] x14 (iC (dn.map (·.1))) 1 T∧S0.le T) ?_ (n:=ts.length)
  ⟨rfl,rfl,rfl,rfl,[],by simp,by simp,by simp,hw,X8.nil,hle⟩
 rintro n _ _ _ x14 _ T ⟨rfl,rfl,rfl,rfl,dn,hn,hsub,hdn,hw,hg,hle⟩
 unfold a2w
 refine hw.next hst hsub (fun t ht htn S' hw' hs'=> ?_) fun hall=> ?_
 ·simp only[exD,List.getElem?_cons_zero,List.getElem?_cons_succ,oD,cdT]
  refine hw'.entry ht ?_
  simp only[exD,List.getElem?_cons_zero,List.getElem?_cons_succ,oD]
  rw[show z6 1 (List.replicate 1 [D.int .i64 0]) [(0, .int .i64 t.1)]=some (iC [t.1]) from rfl]
  refine P7 rfl ?_
  have hle':S0.le S':=fun i o hi=>by rw[hs' i (fun e=>by rw[e,hj0]at hi;cases hi)];exact hle _ _ hi
  have hg':X8 S0 [j] x14 (iC (dn.map (·.1))) 1 S':=hg.of fun i o hi e=>by rw[hs' i (by simpa using hi)];exact e
  have hdl:dn.length+1≤ts.length:=by
   have:(dn++[t]).Nodup:=by
    rw[List.nodup_append]
    exact⟨hdn,by simp,fun a ha b hb=>by simp at hb;subst hb;exact fun e=>htn (by rw[←e];exact ha)⟩
   have:=a3k this (l2:=ts) fun a ha=>by
    rcases List.mem_append.1 ha with ha|ha
    ·exact hsub a ha
    ·rw[List.mem_singleton.1 ha];exact ht
   simpa using this
  refine hg'.push hle' (fun i hi=>by rw[List.mem_singleton.1 hi];exact hw'.there) (bytes:=8) (news:=iC [t.1]) (by simp[rowsS,F6]) (by simp[iC,W6]) (by rw[i4,i4,List.length_map];simp;omega) fun t' S2 hle2 he2 hg2=> ?_
  refine⟨n - 1,by omega,by trivial,by trivial,by trivial,by trivial,dn++[t],by simp;omega,fun a ha=> ?_, ?_,hw'.of (he2 j (by simp)), ?_,hle2⟩
  ·rcases List.mem_append.1 ha with ha|ha
   ·exact hsub a ha
   ·rw[List.mem_singleton.1 ha];exact ht
  ·rw[List.nodup_append]
   exact⟨hdn,by simp,fun a ha b hb=>by simp at hb;subst hb;exact fun e=>htn (by rw[←e];exact ha)⟩
  ·rw[List.map_append,Z3];exact hg2
 ·simp only[exD,List.getElem?_cons_zero,List.getElem?_cons_succ,oD,cdF]
  have hkeys:∀q,q∈dn.map (·.1)↔q∈hs:=fun q=>by
   rw[←hks]
   constructor
   ·intro h
    obtain⟨t,ht,e⟩:=List.mem_map.1 h
    exact List.mem_map.2 ⟨t,hsub t ht,e⟩
   ·intro h
    obtain⟨t,ht,e⟩:=List.mem_map.1 h
    exact List.mem_map.2 ⟨t,hall t ht,e⟩
  have hnd:(dn.map (·.1)).Nodup:=by
   rw[List.Nodup,List.pairwise_map]
   exact hdn.imp_of_mem fun{a b} ha hb hab e=>hab (a5u hkn (hsub a ha) (hsub b hb) e)
  have h0:dn.map (·.1)≠[]:=fun e=>by
   cases hs with
   |nil=>exact hne rfl
   |cons a hs=>have:=(hkeys a).2 List.mem_cons_self;rw[e]at this;cases this
  have hsr:=b6w hnd hkeys
  have hl:=a3M (dn.map (·.1))
  rw[hsr]at hl
  refine c1k hg h0 (by simp;omega) fun v k acs S' hk hav hd hS' hsame=> ?_
  rw[hd,a3O,oD, ←hl]
  refine hend k acs S' hk (by rw[hS',hsr]) fun i o hi=> ?_
  rw[hsame i (fun e=>by rw[e,hk]at hi;cases hi)]
  exact hle _ _ hi
end
end
section
set_option linter.unusedSectionVars false
structure P6 where
 at':Int
 end':Int
 next:List Int
 deriving DecidableEq
def D8(b:P6):List D:=[.int .i64 b.at', .int .i64 b.end',iD b.next]
def B5(l:List P6):D:= .lst (l.map D8) 3
def a0f(l:List P6)(e:Int)(n:List Int):List P6:=match l.getLast? with
 |some b=>l.dropLast++[⟨b.at',e,n⟩]
 |none=>[]
def b5F(ys:List In)(ext:List Int)(i:Nat)(st:List Int×List P6):List Int×List P6:=match ys[i]? with
 |some y=>if st.1.head? =some (ext.getD i 0) then(st.1.tail,st.2++[⟨ext.getD i 0,ext.getD (i+1) 0,t8 y (ext.getD (i+1) 0)⟩])
  else(st.1,a0f st.2 (ext.getD (i+1) 0) (t8 y (ext.getD (i+1) 0)))
 |none=>st
def A4(ys:List In)(ext tops:List Int):Nat→List Int×List P6
 |0=>(tops,[])
 |n+1=>b5F ys ext n (A4 ys ext tops n)
theorem a3Q(l:List P6)(b:P6)(e:Int)(n:List Int):a0f (l++[b]) e n=l++[⟨b.at',e,n⟩]:=by
 unfold a0f
 simp
theorem b1X{ys:List In}{ext tops:List Int}(h0:tops.head? =some (ext.getD 0 0)):∀ {n:Nat},0<n→n≤ys.length→(A4 ys ext tops n).2≠[]
 |0,h,_=>by omega
 |n+1,_,hn=>by
  have hlt:n<ys.length:=hn
  obtain⟨y,hy⟩:∃y,ys[n]? =some y:=⟨_,List.getElem?_eq_getElem hlt⟩
  simp only[A4,b5F,hy]
  by_cases hc:(A4 ys ext tops n).1.head? =some (ext.getD n 0)
  ·rw[if_pos hc];simp
  ·rw[if_neg hc]
   cases n with
   |zero=>exact absurd h0 hc
   |succ n=>
    have:=b1X (ys:=ys) h0 (n:=n+1) (by omega) (by omega)
    obtain⟨l,b,e⟩:∃l b,(A4 ys ext tops (n+1)).2=l++[b]:=⟨_,_,(List.dropLast_concat_getLast this).symm⟩
    show a0f (A4 ys ext tops (n+1)).2 _ _≠[]
    rw[e,a3Q]
    simp
section
variable{E:d6}{w0:i9}
theorem b9B{S0 S:b4}{t:D}{rows:List (List D)}{row:List D}(hg:X8 S0 [] t (rows++[row]) 3 S)(hle:S0.le S):∃p,m9 3 t (.int .i64 (rows.length:Int))=some p∧a2E p=some p∧
  ∀(i:Nat) (v:D),i<row.length→r6 v=some [v]→∃q,s5 i p=some q∧∀K:D→b4→Prop,(∀S',X8 S0 [] t (rows++[row.set i v]) 3 S'→S0.le S'→K b6 S')→j2 S 1 q v K:=by
 rcases hg with ⟨_,e⟩|⟨k,acs,h0,h1,rfl,h3⟩
 ·simp at e
 ·refine⟨_,c2l (by simp),ndR ..,fun i v hi hv=>⟨_,ofR ..,fun K hK=> ?_⟩⟩
  refine stR h3 (rows:=rows++[row]) (row:=row) (by simp) hv ⟨rfl,by decide,by show 0+i+1≤row.length;omega⟩ fun acs'=> ?_
  have e:(rows++[row]).set (0+rows.length) (n8 row (0+i) [v])=rows++[row.set i v]:=by
   rw[Nat.zero_add,Nat.zero_add,List.set_append_right _ _ (Nat.le_refl _),Nat.sub_self];rfl
  rw[e]
  refine hK _ (.inr ⟨k,acs',h0,h1,by simp,b4.set_same _ _ _⟩) (b4.le_set hle h0)
theorem c3o{x0 x14 x16 x94 x95:D}{ys:List In}{ext:List Int}{i:Nat}(hi:i<ys.length)(hyl:ys.length<2^40)(he:ext.length=ys.length+1){N3:D→D→D→D→D→D→D→b4→Prop}{Q:D→b4→Prop}{S0 S:b4}{rows:List (List D)}{a:D}{e0 n0:D}{to:List Int}(hrl:rows.length<2^40)
  (hg:X8 S0 [] x16 (rows++[[a,e0,n0]]) 3 S) (hle:S0.le S)
  (hN:∀S',X8 S0 [] x16 (rows++[[a, .int .i64 (ext.getD (i+1) 0),iD to]]) 3 S'→S0.le S'→N3 x0 (iD ext) x14 x16 x94 x95 (.int .i64 ((i:Int)+1)) S'):
  N6 E w0 N3 Q x0 (iD ext) x14 x16 (.int .i64 (i:Int)) (iD to) x94 x95 (.int .i64 (i:Int)) S:=by
 refine a7j ?_
 unfold a4q
 have hx:ext[i+1]? =some (ext.getD (i+1) 0):=by rw[List.getD_eq_getElem?_getD,List.getElem?_eq_getElem (by omega)];rfl
 have hix:m9 1 (iD ext) (.int .i64 ((i:Int)+1))=some (.elt [.int .i64 (ext.getD (i+1) 0)] 0):=a1S hx
 have hsub:IntKind.i64.wrap (((rows++[[a,e0,n0]]).length:Int) - 1)=(rows.length:Int):=by
  rw[List.length_append,List.length_singleton,g9 (by omega) (by omega)]
  omega
 rw[hg.len,oD,a2n,oD,hsub]
 obtain⟨p,p1,p2,p3⟩:=b9B hg hle
 rw[p1,oD,K9,oD,g9 (by omega) (by omega),hix,oD,lsE,List.getElem?_cons_zero,oD,p2,oD]
 obtain⟨q,q1,q2⟩:=p3 1 (.int .i64 (ext.getD (i+1) 0)) (by simp) rfl
 rw[q1,oD]
 refine q2 _ fun S1 hg1 hle1=> ?_
 rw[oD]
 obtain⟨p',p1',_,p3'⟩:=b9B hg1 hle1
 rw[p1]at p1'
 cases p1'
 obtain⟨q',q1',q2'⟩:=p3' 2 (iD to) (by simp) rfl
 rw[q1',oD]
 refine q2' _ fun S2 hg2 hle2=> ?_
 rw[oD]
 exact hN S2 hg2 hle2
end
end
end Go.Proofs.Ytdkidgkiplcggaa.d
end
section
namespace Go.Am
def prs(ts:List (Int×Int×Nat)):List (Int×Int):=ts.map fun t=>(t.1,t.2.1)
theorem I4.lookV{S:b4}{k:Nat}{ts:List (Int×Int×Nat)}(h:I4 S k ts)(q:Int)(ok:Bool):
  (∃v:Int,(q,v)∈prs ts∧a5e S 0 (.int .i64 0) ok (.mp k) (.int .i64 q)=some (if ok then .tup [.int .i64 v, .bool true]else .int .i64 v))∨
  ((∀v,(q,v) ∉ prs ts)∧a5e S 0 (.int .i64 0) ok (.mp k) (.int .i64 q)=some (if ok then .tup [.int .i64 0, .bool false]else .int .i64 0)):=by
 obtain⟨acs,hS⟩:=h.has
 simp only[a5e,a8i,b7M,hS,a5J,beq_self_eq_true,if_true]
 rcases a1m q ts 0 with ⟨h1,h2⟩|⟨j,t,h1,h2,h3⟩
 ·refine .inr ⟨fun v hv=>h1 ?_,by rw[h2];rfl⟩
  obtain⟨t,ht,e⟩:=List.mem_map.1 hv
  simp only[Prod.mk.injEq]at e
  exact List.mem_map.2 ⟨t,ht,e.1⟩
 ·refine .inl ⟨t.2.1,List.mem_map.2 ⟨t,List.mem_of_getElem? h1,by rw[h2]⟩,by rw[h3];rfl⟩
theorem c2j{ts:List (Int×Int×Nat)}(h:(ts.map (·.1)).Nodup){q v v':Int}(h1:(q,v)∈prs ts)(h2:(q,v')∈prs ts):v=v':=by
 obtain⟨t,ht,e⟩:=List.mem_map.1 h1
 obtain⟨t',ht',e'⟩:=List.mem_map.1 h2
 simp only[Prod.mk.injEq]at e e'
 have:=a5u (f:=fun t:Int×Int×Nat=>t.1) h ht ht' (by rw[e.1,e'.1])
 subst this
 rw[←e.2, ←e'.2]
theorem I4.putV{S:b4}{k:Nat}{ts:List (Int×Int×Nat)}(h:I4 S k ts){q v:Int}{K:D→b4→Prop}
  (hK:∀ts' S',(∀n x,(n,x)∈prs ts'↔(n=q∧x=v)∨(n≠q∧(n,x)∈prs ts))→I4 S' k ts'→(∀j,j≠k→S' j=S j)→K b6 S'):b0y S 0 (.mp k) (.int .i64 q) (.int .i64 v) K:=by
 obtain⟨acs,hS⟩:=h.has
 simp only[b0y,a8i,hS,a5J,beq_self_eq_true,if_true]
 rcases a1m q ts 0 with ⟨h1,h2⟩|⟨j,t,h1,h2,h3⟩
 ·rw[h2]
  intro n acs' hn
  refine hK (ts++[(q,v,n)]) _ (fun m x=> ?_) ⟨⟨acs',by rw[b4.set_same,List.map_append];rfl⟩, ?_, ?_⟩ fun j hj=>b4.set_ne _ _ _ hj
  ·unfold prs
   rw[List.map_append,List.mem_append]
   simp only[List.map_cons,List.map_nil,List.mem_singleton,Prod.mk.injEq]
   constructor
   ·rintro(h|h)
    ·refine .inr ⟨fun e=>h1 ?_,h⟩
     obtain⟨t,ht,e'⟩:=List.mem_map.1 h
     simp only[Prod.mk.injEq]at e'
     exact List.mem_map.2 ⟨t,ht,by rw[e'.1,e]⟩
    ·exact .inl h
   ·rintro(h|h)
    ·exact .inr h
    ·exact .inl h.2
  ·rw[List.map_append,List.nodup_append]
   exact⟨h.keys,by simp,fun a ha b hb=>by simp at hb;subst hb;exact fun e=>h1 (by rw[←e];exact ha)⟩
  ·rw[List.map_append,List.nodup_append]
   refine⟨h.stamps,by simp,fun a ha b hb=> ?_⟩
   simp at hb
   subst hb
   rintro rfl
   obtain⟨t,ht,e⟩:=List.mem_map.1 ha
   exact hn (b0l t) (List.mem_map.2 ⟨t,ht,rfl⟩) (by simp[b0l,e])
 ·rw[h3]
  intro acs'
  have hj:j<ts.length:=(List.getElem?_eq_some_iff.1 h1).1
  have e0:∀ {α:Type} (f:Int×Int×Nat→α),f (q,v,t.2.2)=f t→(ts.set j (q,v,t.2.2)).map f=ts.map f:=fun f hf=>by
   rw[List.map_set,hf]
   apply List.ext_getElem?
   intro i
   rw[List.getElem?_set]
   split
   ·rename_i e
    subst e
    rw[List.length_map,if_pos hj,List.getElem?_map,h1];rfl
   ·rfl
  have k1:=e0 (·.1) h2.symm
  have k2:=e0 (·.2.2) rfl
  have hkn:((ts.set j (q,v,t.2.2)).map (·.1)).Nodup:=by rw[k1];exact h.keys
  refine hK (ts.set j (q,v,t.2.2)) _ (fun n x=> ?_) ⟨⟨acs', ?_⟩,hkn,by rw[k2];exact h.stamps⟩ fun j hj=>b4.set_ne _ _ _ hj
  ·have hq:(q,v)∈prs (ts.set j (q,v,t.2.2)):=List.mem_map.2 ⟨_,List.mem_set hj _,rfl⟩
   constructor
   ·intro hm
    by_cases hn:n=q
    ·subst hn;exact .inl ⟨rfl,c2j hkn hm hq⟩
    ·refine .inr ⟨hn, ?_⟩
     obtain⟨t',ht',e⟩:=List.mem_map.1 hm
     rcases List.mem_or_eq_of_mem_set ht' with ht'|rfl
     ·exact List.mem_map.2 ⟨t',ht',e⟩
     ·simp only[Prod.mk.injEq]at e;exact absurd e.1.symm hn
   ·rintro(⟨rfl,rfl⟩|⟨hn,hm⟩)
    ·exact hq
    ·obtain⟨t',ht',e⟩:=List.mem_map.1 hm
     simp only[Prod.mk.injEq]at e
     obtain⟨i,hi⟩:=List.getElem?_of_mem ht'
     have hij:j≠i:=fun e'=>by
      subst e'
      rw[h1]at hi
      cases hi
      exact hn (by rw[←e.1,h2])
     refine List.mem_map.2 ⟨t',List.mem_of_getElem? (i:=i) ?_,by rw[e.1,e.2]⟩
     rw[List.getElem?_set,if_neg hij];exact hi
  ·rw[b4.set_same,List.map_set,Nat.zero_add];rfl
end Go.Am
end
section
open Go.Proofs Go Go.Am Go.Op
namespace Go.Proofs.Ytdkidgkiplcggaa.d
section
set_option linter.unusedSectionVars false
def B0(l:List P6)(n:Int):Option Nat:=l.findIdx? fun b=>decide (b.at'=n)
theorem a0P(b:P6)(l:List P6)(n:Int):B0 (b::l) n=if b.at'=n then some 0 else(B0 l n).map (· +1):=by
 unfold B0
 rw[List.findIdx?_cons]
 by_cases h:b.at'=n
 ·rw[if_pos h,decide_eq_true h];rfl
 ·rw[if_neg h,decide_eq_false h];rfl
theorem a1E{l:List P6}{i:Nat}{b:P6}(h:l[i]? =some b):m9 3 (B5 l) (.int .i64 (i:Int))=some (.elt (D8 b) 0):=b4E (by rw[List.getElem?_map,h];rfl)
theorem a0Z(l:List P6):j9 (B5 l)=some (.int .i64 l.length):=by simp[B5]
def AtM(l:List P6)(ts:List (Int×Int×Nat))(i:Nat):Prop:=∀n x,(n,x)∈prs ts↔ ∃j,B0 (l.drop i) n=some j∧x=((i+j:Nat):Int)
section
variable{E:d6}{w0:i9}
theorem c6a{l:List P6}(hl:l.length<2^40){k:Nat}{Q:D→b4→Prop}{S0 S:b4}(hm:I4 S k [])(hk0:S0 k=none)(hle:S0.le S)
  (hend:∀ts S',I4 S' k ts→AtM l ts 0→S0.le S'→b2I S' fun v11 S12=>a8 (j9 (B5 l)) fun v55=>a8 (d4 .gtr v55 (.int .i64 0)) fun v56=>d9 v56
   (K5 S12 1 (z6 1 (List.replicate 1 [(.int .i64 0)]) [(0,(.int .i64 0))]) 1 fun v57 S58=>C9 E w0 Q (B5 l) (.mp k) v11 v57 S58)
   (C9 E w0 Q (B5 l) (.mp k) v11 .nilSlc S12)):
  d5 Try.prog E w0 (.loop P3) (f0 79 [0,3,4] [B5 l, .mp k, .int .i64 ((l.length:Int) - 1)]) S (P4 E w0 Q):=by
 refine a5U (I:=fun n x0 x3 x4 T=>x0=B5 l∧x3= .mp k∧x4= .int .i64 ((n:Int) - 1)∧n≤l.length∧∃ts,I4 T k ts∧AtM l ts n∧S0.le T) ?_ (n:=l.length)
  ⟨rfl,rfl,rfl,Nat.le_refl _,[],hm,fun n x=>by simp[prs,B0],hle⟩
 rintro n _ _ _ T ⟨rfl,rfl,rfl,hn,ts,hm,ha,hle⟩
 unfold a0d
 rw[c0f,oD,cdI]
 refine⟨fun hge=> ?_,fun hlt=> ?_⟩
 ·obtain⟨i,rfl⟩:∃i,n=i+1:=⟨n - 1,by omega⟩
  have e1:((i+1:Nat):Int) - 1=(i:Int):=by omega
  rw[e1]
  have hb:l[i]? =some l[i]:=List.getElem?_eq_getElem (by omega)
  have hd:l.drop i=l[i]::l.drop (i+1):=List.drop_eq_getElem_cons (by omega)
  generalize l[i]=b at hb hd
  rw[a1E hb,oD,ofE,oD,lsE,show(D8 b)[0+0]? =some (.int .i64 b.at') from rfl,oD]
  refine hm.putV fun ts' S' hp hm' hs'=> ?_
  rw[a2n,oD,g9 (by omega) (by omega)]
  refine⟨i,by omega,rfl,rfl,rfl,by omega,ts',hm',fun q x=> ?_,fun j o hj=>by rw[hs' j (fun e=>by rw[e,hk0]at hj;cases hj)];exact hle _ _ hj⟩
  rw[hp,hd,a0P]
  by_cases hq:b.at'=q
  ·rw[if_pos hq]
   constructor
   ·rintro(⟨_,rfl⟩|⟨h,_⟩)
    ·exact⟨0,rfl,rfl⟩
    ·exact absurd hq.symm h
   ·rintro⟨j,hj,rfl⟩
    cases hj
    exact .inl ⟨hq.symm,rfl⟩
  ·rw[if_neg hq]
   constructor
   ·rintro(⟨h,_⟩|⟨_,h⟩)
    ·exact absurd h.symm hq
    ·obtain⟨j,hj,rfl⟩:=(ha q x).1 h
     exact⟨j+1,by rw[hj];rfl,by omega⟩
   ·rintro⟨j,hj,rfl⟩
    refine .inr ⟨fun h=>hq h.symm,(ha q _).2 ?_⟩
    cases hf:B0 (l.drop (i+1)) q with
    |none=>rw[hf]at hj;cases hj
    |some j'=>rw[hf]at hj;cases hj;exact⟨j',rfl,by show((i+(j'+1):Nat):Int)=((i+1+j':Nat):Int);omega⟩
 ·have:n=0:=by omega
  subst this
  exact hend ts T hm ha hle
end
end
section
set_option linter.unusedSectionVars false
theorem c4v{S0 T:b4}{av:List Nat}{d:D}{l:List Int}(h:Sl S0 av d l T){n:Nat}(hn:n≤l.length):∃d',W9 1 d none (some (.int .i64 (n:Int))) none=some d'∧ob d'=ob d∧Sl S0 av d' (l.take n) T:=by
 rcases h with ⟨rfl,rfl⟩|⟨k,cap,ex,rows,acs,h0,h1,rfl,h2,h3,h4⟩
 ·have:n=0:=by simpa using hn
  subst this
  exact⟨.nilSlc,rfl,rfl, .inl ⟨rfl,rfl⟩⟩
 ·have hnl:(l.take n).length=n:=by rw[List.length_take];omega
  refine⟨.raw k (0+0) (n - 0) (cap - 0) (ex||false) 1, ?_,rfl, .inr ⟨k,cap,ex||false,rows,acs,h0,h1,by rw[hnl];rfl,h2, ?_,by rw[hnl];omega⟩⟩
  ·simp only[W9,E3,b5P,a4G,b0A,if_true,Option.bind_some,c2T (show n≤cap by omega),Option.map_some,Option.isSome_none]
  ·rw[hnl]
   have:=congrArg (List.take n) h3
   rw[List.take_take,Nat.min_eq_left hn]at this
   rw[this]
   simp[iC,W6,List.map_take]
def R3(l:List P6)(ns:List Int):List Int:=(ns.filterMap (B0 l)).map fun i:Nat=>(i:Int)
theorem b2b(l:List P6)(ns:List Int):(R3 l ns).length≤ns.length:=by
 unfold R3
 rw[List.length_map]
 exact List.length_filterMap_le _ _
section
variable{E:d6}{w0:i9}
theorem c5G{l:List P6}{k k2:Nat}{ts:List (Int×Int×Nat)}(ha:AtM l ts 0){next todo:List Int}(hnl:next.length<2^38)(htl:todo.length<2^39){N1:D→D→D→D→b4→Prop}{Q:D→b4→Prop}{S0 S:b4}(hm:I4 S k ts)(hk2:S k2≠none){x6:D}(ht:Sl S0 [k,k2] x6 todo S)(hle:S0.le S)
  (hN:∀d' S',Sl S0 [k,k2] d' (todo++R3 l next) S'→S0.le S'→S' k=S k→S' k2=S k2→N1 (B5 l) (.mp k) (.mp k2) d' S'):
  d5 Try.prog E w0 (.loop P5) (f0 79 [0,3,5,6,58,59,60] [B5 l, .mp k, .mp k2,x6,iD next, .int .i64 (next.length:Int),(.int .i64 0)]) S (Q1 E w0 N1 Q):=by
 refine a5R (I:=fun n x0 x3 x5 x6 x58 x59 x60 T=>x0=B5 l∧x3= .mp k∧x5= .mp k2∧x58=iD next∧x59= .int .i64 (next.length:Int)∧∃j:Nat,x60= .int .i64 (j:Int)∧j+n=next.length∧Sl S0 [k,k2] x6 (todo++R3 l (next.take j)) T∧S0.le T∧T k=S k∧T k2=S k2) ?_ (n:=next.length)
  ⟨rfl,rfl,rfl,rfl,rfl,0,rfl,by omega,by simpa [R3]using ht,hle,rfl,rfl⟩
 rintro n _ _ _ x6 _ _ _ T ⟨rfl,rfl,rfl,rfl,rfl,j,rfl,hj,hs,hle,e1,e2⟩
 unfold Y7
 rw[a2X,oD,cdI]
 refine⟨fun hlt=> ?_,fun hge=> ?_⟩
 ·have hlt:j<next.length:=by omega
  have hq:next[j]? =some next[j]:=List.getElem?_eq_getElem hlt
  generalize next[j]=q at hq
  have hm':I4 T k ts:=hm.of e1
  rw[a1S hq,oD,lsE,List.getElem?_cons_zero,oD]
  rcases hm'.lookV q true with ⟨v,hv,h1⟩|⟨hv,h1⟩
  ·obtain⟨i,hi,rfl⟩:=(ha q v).1 hv
   rw[List.drop_zero]at hi
   have hn:R3 l (next.take (j+1))=R3 l (next.take j)++[((0+i:Nat):Int)]:=by
    unfold R3
    rw[List.take_add_one,hq,List.filterMap_append,List.map_append]
    simp[hi]
   rw[h1]
   simp only[if_true,exD,List.getElem?_cons_zero,List.getElem?_cons_succ,oD,cdT]
   rw[show z6 1 (List.replicate 1 [D.int .i64 0]) [(0, .int .i64 ((0+i:Nat):Int))]=some (iC [((0+i:Nat):Int)]) from rfl]
   refine P7 rfl ?_
   have hlen:=b2b l (next.take j)
   rw[List.length_take]at hlen
   refine hs.push hle (fun x hx=> ?_) (news:=[((0+i:Nat):Int)]) (by simp[rowsS,F6]) (by rw[List.length_append,List.length_singleton];omega) fun d' T' hle' hav hs'=> ?_
   ·rcases List.mem_cons.1 hx with rfl|hx
    ·rw[e1];exact hm.there
    ·rw[List.mem_singleton.1 hx,e2];exact hk2
   ·rw[K9,oD,g9 (by omega) (by omega)]
    refine⟨n - 1,by omega,by trivial,by trivial,by trivial,by trivial,by trivial,j+1,by trivial,by omega, ?_,hle',by rw[hav k (by simp),e1],by rw[hav k2 (by simp),e2]⟩
    rw[hn, ←List.append_assoc];exact hs'
  ·have hn:R3 l (next.take (j+1))=R3 l (next.take j):=by
    have:B0 l q=none:=by
     cases hf:B0 l q with
     |none=>rfl
     |some i=>exact absurd ((ha q _).2 ⟨i,by rw[List.drop_zero];exact hf,rfl⟩) (hv _)
    unfold R3
    rw[List.take_add_one,hq,List.filterMap_append,List.map_append]
    simp[this]
   rw[h1]
   simp only[if_true,exD,List.getElem?_cons_zero,List.getElem?_cons_succ,oD,cdF,K9]
   rw[g9 (by omega) (by omega)]
   exact⟨n - 1,by omega,by trivial,by trivial,by trivial,by trivial,by trivial,j+1,by trivial,by omega,by rw[hn];exact hs,hle,e1,e2⟩
 ·rw[List.take_of_length_le (by omega)]at hs
  exact hN _ T hs hle e1 e2
end
end
section
set_option linter.unusedSectionVars false
inductive a6L (l:List P6):Int→Prop
 |base {b:P6}:l[0]? =some b→a6L l b.at'
 |step {a n:Int} {i:Nat} {b:P6}:a6L l a→B0 l a=some i→l[i]? =some b→n∈b.next→(B0 l n).isSome=true→a6L l n
def wgt(p:Int→Bool):List P6→Nat
 | []=>0
 |b::l=>(if p b.at' then b.next.length+1 else 0)+wgt p l
theorem b7E{p p':Int→Bool}(h:∀a,p' a=true→p a=true):∀l:List P6,wgt p' l≤wgt p l
 | []=>Nat.le_refl _
 |b::l=>by
  have:=b7E h l
  simp only[wgt]
  by_cases h1:p' b.at'=true
  ·rw[if_pos h1,if_pos (h _ h1)];omega
  ·rw[if_neg h1];split<;>omega
theorem b6P{p p':Int→Bool}(h:∀a,p' a=true→p a=true){b:P6}(h1:p b.at'=true)(h2:p' b.at'=false):∀ {l:List P6},b∈l→wgt p' l+(b.next.length+1)≤wgt p l
 | [],hb=>by cases hb
 |c::l,hb=>by
  simp only[wgt]
  rcases List.mem_cons.1 hb with rfl|hb
  ·have:=b7E h l
   rw[if_pos h1,h2]
   simp only[Bool.false_eq_true,if_false]
   omega
  ·have:=b6P h h1 h2 hb
   by_cases h3:p' c.at'=true
   ·rw[if_pos h3,if_pos (h _ h3)];omega
   ·rw[if_neg h3];split<;>omega
theorem a0V{l:List P6}{n:Int}{i:Nat}(h:B0 l n=some i):∃b,l[i]? =some b∧b.at'=n:=by
 unfold B0 at h
 rw[List.findIdx?_eq_some_iff_getElem]at h
 obtain⟨hi,he,_⟩:=h
 exact⟨l[i],List.getElem?_eq_getElem hi,by simpa using he⟩
structure b1c (l:List P6) (todo:List Int) (ts:List (Int×Int×Nat)):Prop where
 one:∀n x,(n,x)∈prs ts→x=1∧a6L l n
 num:∀t∈todo,∃(i:Nat) (b:P6),t=(i:Int)∧l[i]? =some b∧B0 l b.at'=some i∧a6L l b.at'
 nxt:∀a i b n i',(a,(1:Int))∈prs ts→B0 l a=some i→l[i]? =some b→n∈b.next→B0 l n=some i'→(n,(1:Int))∈prs ts∨(i':Int)∈todo
 bas:∀b,l[0]? =some b→(b.at',(1:Int))∈prs ts∨(0:Int)∈todo
theorem b1c.done{l:List P6}{ts:List (Int×Int×Nat)}(h:b1c l [] ts)(n:Int):n∈ts.map (·.1)↔a6L l n:=by
 have key:∀n,n∈ts.map (·.1)↔(n,(1:Int))∈prs ts:=fun n=>by
  constructor
  ·intro hm
   obtain⟨t,ht,rfl⟩:=List.mem_map.1 hm
   have hp:(t.1,t.2.1)∈prs ts:=List.mem_map.2 ⟨t,ht,rfl⟩
   rw[(h.one _ _ hp).1]at hp
   exact hp
  ·intro hm
   obtain⟨t,ht,e⟩:=List.mem_map.1 hm
   simp only[Prod.mk.injEq]at e
   exact List.mem_map.2 ⟨t,ht,e.1⟩
 rw[key]
 constructor
 ·exact fun hm=>(h.one _ _ hm).2
 ·intro hr
  induction hr with
  |base hb=>
   rcases h.bas _ hb with h1|h1
   ·exact h1
   ·cases h1
  |step hr hf hb hn hs ih=>
   obtain⟨i',hi'⟩:=Option.isSome_iff_exists.1 hs
   rcases h.nxt _ _ _ _ i' ih hf hb hn hi' with h1|h1
   ·exact h1
   ·cases h1
theorem b1c.skip{l:List P6}{todo:List Int}{ts:List (Int×Int×Nat)}{i:Nat}{b:P6}(h:b1c l (todo++[(i:Int)]) ts)(hb:l[i]? =some b)(hf:B0 l b.at'=some i)(hseen:(b.at',(1:Int))∈prs ts):b1c l todo ts:=by
 have back:∀n i',B0 l n=some i'→(i':Int)∈todo++[(i:Int)]→(n,(1:Int))∈prs ts∨(i':Int)∈todo:=fun n i' hn hm=>by
  rcases List.mem_append.1 hm with hm|hm
  ·exact .inr hm
  ·have:i'=i:=by rw[List.mem_singleton]at hm;omega
   subst this
   obtain⟨b',hb',e⟩:=a0V hn
   rw[hb]at hb';cases hb'
   rw[←e];exact .inl hseen
 refine⟨h.one,fun t ht=>h.num t (List.mem_append_left _ ht),fun a i1 b1 n i' h1 h2 h3 h4 h5=> ?_,fun b0 h0=> ?_⟩
 ·rcases h.nxt a i1 b1 n i' h1 h2 h3 h4 h5 with g|g
  ·exact .inl g
  ·exact back n i' h5 g
 ·rcases h.bas b0 h0 with g|g
  ·exact .inl g
  ·have h00:B0 l b0.at'=some 0:=by
    cases l with
    |nil=>cases h0
    |cons c l=>simp at h0;subst h0;rw[a0P,if_pos rfl]
   exact back _ 0 h00 g
theorem b1c.take{l:List P6}{todo:List Int}{ts ts':List (Int×Int×Nat)}{i:Nat}{b:P6}(h:b1c l (todo++[(i:Int)]) ts)(hb:l[i]? =some b)(hf:B0 l b.at'=some i)(hr:a6L l b.at')(hp:∀n x,(n,x)∈prs ts'↔(n=b.at'∧x=1)∨(n≠b.at'∧(n,x)∈prs ts)):b1c l (todo++R3 l b.next) ts':=by
 have b2u:∀n,(n,(1:Int))∈prs ts→(n,(1:Int))∈prs ts':=fun n hn=>by
  rw[hp]
  by_cases e:n=b.at'
  ·exact .inl ⟨e,rfl⟩
  ·exact .inr ⟨e,hn⟩
 have back:∀n i',B0 l n=some i'→(i':Int)∈todo++[(i:Int)]→(n,(1:Int))∈prs ts'∨(i':Int)∈todo++R3 l b.next:=fun n i' hn hm=>by
  rcases List.mem_append.1 hm with hm|hm
  ·exact .inr (List.mem_append_left _ hm)
  ·have:i'=i:=by rw[List.mem_singleton]at hm;omega
   subst this
   obtain⟨b',hb',e⟩:=a0V hn
   rw[hb]at hb';cases hb'
   exact .inl ((hp _ _).2 (.inl ⟨e.symm,rfl⟩))
 refine⟨fun n x hn=> ?_,fun t ht=> ?_,fun a i1 b1 n i' h1 h2 h3 h4 h5=> ?_,fun b0 h0=> ?_⟩
 ·rcases(hp n x).1 hn with ⟨rfl,rfl⟩|⟨_,hn⟩
  ·exact⟨rfl,hr⟩
  ·exact h.one n x hn
 ·rcases List.mem_append.1 ht with ht|ht
  ·exact h.num t (List.mem_append_left _ ht)
  ·unfold R3 at ht
   obtain⟨j,hj,rfl⟩:=List.mem_map.1 ht
   obtain⟨n,hn,hfn⟩:=List.mem_filterMap.1 hj
   obtain⟨c,hc,e⟩:=a0V hfn
   subst e
   exact⟨j,c,rfl,hc,hfn, .step hr hf hb hn (by rw[hfn];rfl)⟩
 ·rcases(hp a 1).1 h1 with ⟨rfl,_⟩|⟨_,h1⟩
  ·rw[hf]at h2;cases h2
   rw[hb]at h3;cases h3
   exact .inr (List.mem_append_right _ (List.mem_map.2 ⟨i',List.mem_filterMap.2 ⟨n,h4,h5⟩,rfl⟩))
  ·rcases h.nxt a i1 b1 n i' h1 h2 h3 h4 h5 with g|g
   ·exact .inl (b2u n g)
   ·exact back n i' h5 g
 ·rcases h.bas b0 h0 with g|g
  ·exact .inl (b2u _ g)
  ·have h00:B0 l b0.at'=some 0:=by
    cases l with
    |nil=>cases h0
    |cons c l=>simp at h0;subst h0;rw[a0P,if_pos rfl]
   exact back _ 0 h00 g
end
section
set_option linter.unusedSectionVars false
def a1K(ts:List (Int×Int×Nat))(a:Int):Bool:=decide (a ∉ ts.map (·.1))
theorem b4t{ts:List (Int×Int×Nat)}{n:Int}:n∈ts.map (·.1)↔ ∃x,(n,x)∈prs ts:=by
 constructor
 ·intro h
  obtain⟨t,ht,rfl⟩:=List.mem_map.1 h
  exact⟨t.2.1,List.mem_map.2 ⟨t,ht,rfl⟩⟩
 ·rintro⟨x,h⟩
  obtain⟨t,ht,e⟩:=List.mem_map.1 h
  simp only[Prod.mk.injEq]at e
  exact List.mem_map.2 ⟨t,ht,e.1⟩
section
variable{E:d6}{w0:i9}
theorem c5L{l:List P6}(hl:l.length<2^37)(hW:wgt (fun _=>true) l<2^37)(hnx:∀b∈l,b.next.length<2^37){k k2:Nat}{ts ts2:List (Int×Int×Nat)}(ha:AtM l ts 0){Q:D→b4→Prop}{S0 S:b4}(hm:I4 S k ts)(hm2:I4 S k2 ts2)(hk0:S0 k=none)(hk20:S0 k2=none)(hkk:k≠k2){x6:D}{todo:List Int}(ht:Sl S0 [k,k2] x6 todo S)(htl:todo.length≤1)(hle:S0.le S)(hI:b1c l todo ts2)
  (hend:∀ts2 S',I4 S' k2 ts2→(∀n,n∈ts2.map (·.1)↔a6L l n)→S0.le S'→M3 E w0 Q (.mp k2) S'):
  d5 Try.prog E w0 (.loop Q4) (f0 79 [0,3,5,6] [B5 l, .mp k, .mp k2,x6]) S (Q2 E w0 Q):=by
 refine a6e (I:=fun n x0 x3 x5 x6 T=>x0=B5 l∧x3= .mp k∧x5= .mp k2∧n<2^38∧∃todo ts2,n=todo.length+wgt (a1K ts2) l∧Sl S0 [k,k2] x6 todo T∧I4 T k ts∧I4 T k2 ts2∧S0.le T∧b1c l todo ts2) ?_ (n:=todo.length+wgt (a1K ts2) l)
  ⟨rfl,rfl,rfl,by have:=b7E (p:=fun _=>true) (p':=a1K ts2) (fun _ _=>rfl) l;omega,todo,ts2,rfl,ht,hm,hm2,hle,hI⟩
 rintro n _ _ _ x6 T ⟨rfl,rfl,rfl,hn38,todo,ts2,hn,ht,hm,hm2,hle,hI⟩
 unfold Y8
 rw[ht.len,oD,b0v,oD,cdI]
 refine⟨fun hgt=> ?_,fun hng=> ?_⟩
 case refine_2=>
  have:todo=[]:=List.length_eq_zero_iff.1 (by omega)
  subst this
  exact hend ts2 T hm2 hI.done hle
 obtain⟨td,t,rfl⟩:∃td t,todo=td++[t]:=by
  have hne:todo≠[]:=fun e=>by rw[e]at hgt;simp at hgt
  exact⟨_,_,(List.dropLast_concat_getLast hne).symm⟩
 obtain⟨i,b,rfl,hb,hf,hr⟩:=hI.num t (by simp)
 have hbm:=List.mem_of_getElem? hb
 have tln:(td++[(i:Int)]).length=td.length+1:=by simp
 have hlen:(((td++[(i:Int)]).length:Nat):Int) - 1=(td.length:Int):=by simp
 have hwr:IntKind.i64.wrap ((((td++[(i:Int)]).length:Nat):Int) - 1)=(td.length:Int):=by
  rw[g9 (by rw[tln];omega) (by rw[tln];omega),hlen]
 obtain⟨p,p1,p2⟩:=ht.rd.2 td.length (i:Int) (by simp)
 rw[oD,a2n,oD,hwr,p1,oD,p2,oD,a1E hb,oD,laE,if_pos ⟨by decide,by simp[D8]⟩,oD]
 intro ka a na
 refine(H5.new (sz:=3) (c:=[.int .i64 0, .int .i64 0, .nilSlc])).st (ds:=D8 b) (clA _) ⟨rfl,by decide,by simp[D8]⟩ fun c=> ?_
 rw[b4.set_set,show n8 [D.int .i64 0, .int .i64 0, .nilSlc] 0 (D8 b)=D8 b from rfl]
 have ca:H5 (T.set ka ⟨3,[D8 b],c⟩) ka 3 (D8 b):=H5.new
 have l1:S0.le (T.set ka ⟨3,[D8 b],c⟩):=b4.le_trans hle (b4.le_new na)
 have nk:k≠ka:=fun e=>hm.there (by rw[e];exact na)
 have nk2:k2≠ka:=fun e=>hm2.there (by rw[e];exact na)
 have hm:=hm.of (S':=T.set ka ⟨3,[D8 b],c⟩) (b4.set_ne _ _ _ nk)
 have hm2:=hm2.of (S':=T.set ka ⟨3,[D8 b],c⟩) (b4.set_ne _ _ _ nk2)
 have hka0:S0 ka=none:=b4.none_of hle na
 have ht:=ht.of (T':=T.set ka ⟨3,[D8 b],c⟩) fun j hj=>b4.set_ne _ _ _ fun e=>ht.ob_some j hj (by rw[e];exact na)
 generalize (T.set ka ⟨3,[D8 b],c⟩)=T1 at ca l1 hm hm2 ht
 obtain⟨d',d1,d2,d3⟩:=c4v ht (n:=td.length) (by simp)
 rw[List.take_left' rfl]at d3
 have q0:c9 T1 (.ptr ka 0)=some (.int .i64 b.at'):=ca.ld 0
 rw[tln]at hn
 rw[oD,a2n,oD,hwr,d1,oD,ofP,oD,q0,oD]
 rcases hm2.lookV b.at' false with ⟨v,hv,h1⟩|⟨hv,h1⟩
 ·have hv1:=(hI.one _ _ hv).1
  subst hv1
  rw[h1]
  simp only[Bool.false_eq_true,if_false,oD,b0v]
  rw[show decide ((1:Int)>0)=true from rfl,cdT]
  exact⟨n - 1,by omega,by trivial,by trivial,by trivial,by omega,td,ts2,by omega,d3,hm,hm2,l1,hI.skip hb hf hv⟩
 ·rw[h1]
  simp only[Bool.false_eq_true,if_false,oD,b0v]
  rw[show decide ((0:Int)>0)=false from rfl,cdF]
  simp only[ofP,Nat.zero_add,oD,q0]
  refine hm2.putV fun ts3 T3 hp hm3 hs3=> ?_
  have ca3:H5 T3 ka 3 (D8 b):=ca.of (hs3 ka (Ne.symm nk2))
  have q2:c9 T3 (.ptr ka 2)=some (iD b.next):=ca3.ld 2
  have l3:S0.le T3:=fun j o hj=>by rw[hs3 j (fun e=>by rw[e,hk20]at hj;cases hj)];exact l1 _ _ hj
  have hsl:Sl S0 [k,k2] d' td T3:=d3.of fun j hj=>hs3 j fun e=>by have:=(d3.ob_none j hj).2;rw[e]at this;simp at this
  simp only[ofP,Nat.zero_add,oD,q2,a1q]
  have hnl:=hnx b hbm
  refine c5G ha (by omega) (by omega) (hm.of (hs3 k hkk)) hm3.there hsl l3 fun d2 T4 hs4 l4 e4 e42=> ?_
  have hun:a1K ts2 b.at'=true:=by
   unfold a1K
   rw[decide_eq_true_eq,b4t]
   rintro⟨x,hx⟩
   exact hv x hx
  have hseen:a1K ts3 b.at'=false:=by
   unfold a1K
   rw[decide_eq_false_iff_not,Classical.not_not,b4t]
   exact⟨1,(hp _ _).2 (.inl ⟨rfl,rfl⟩)⟩
  have hmono:∀a,a1K ts3 a=true→a1K ts2 a=true:=fun a h=>by
   unfold a1K at h ⊢
   rw[decide_eq_true_eq,b4t]at h ⊢
   rintro⟨x,hx⟩
   by_cases e:a=b.at'
   ·exact h ⟨1,(hp _ _).2 (.inl ⟨e,rfl⟩)⟩
   ·exact h ⟨x,(hp _ _).2 (.inr ⟨e,hx⟩)⟩
  have hd:=b6P hmono hun hseen hbm
  have hnm:=b2b l b.next
  refine⟨(td++R3 l b.next).length+wgt (a1K ts3) l,by rw[List.length_append];omega,rfl,rfl,rfl,by rw[List.length_append];omega,td++R3 l b.next,ts3,rfl,hs4,(hm.of (hs3 k hkk)).of e4,hm3.of e42,l4,hI.take hb hf hr hp⟩
end
end
end Go.Proofs.Ytdkidgkiplcggaa.d
end
