/-
  BlocksJoinSaid: part Oay of its proof.
-/
import Derived.Test.YtdkidgkiplcggaaOaw
import Derived.Test.YtdkidgkiplcggaaOax
set_option linter.unusedVariables false
set_option linter.unusedSimpArgs false
set_option maxRecDepth 100000
section
open Go.Proofs Go Go.Am Go.Op
namespace Go.Proofs.Ytdkidgkiplcggaa.d
section
set_option linter.unusedSectionVars false
theorem a8F{y:In}(ha:y.arms.length≤65535)(n:Int):(p9 y n).length≤65540:=by
 have hr:∀l:List Int,(a0t l).length≤l.length:=fun l=>by
  have:=Z1 (srt l);rw[a3R]at this;exact this
 unfold p9
 split
 ·simp
 ·split
  ·simp
  ·refine Nat.le_trans (hr _) ?_
   split
   ·simp
   ·split
    ·simp;omega
    ·simp
section
variable{E:d6}{w0:i7}
theorem Own.fin{S0 S:b5}{d:D}{l:List Int}(h:Own S0 d l S){Q:D→b5→Prop}(hq:b8 E Q (iD l) S0):b8 E Q d S:=by
 rcases h with ⟨rfl,rfl,rfl⟩|⟨k,acs,ex,h,rfl,rfl⟩
 ·exact b8.nil hq
 ·refine b8.freeze (b5.set_same _ _ _) rfl (by rw[i4];omega) (Nat.le_refl _) ?_
  rw[b5.erase_set _ _ _ h,List.drop_zero,List.take_of_length_le (by rw[i4];exact Nat.le_refl _)]
  exact hq
theorem Sl.rows{S0 T:b5}{av:List Nat}{d:D}{l:List Int}(h:Sl S0 av d l T):((d= .nilSlc∧l=[])∨c3P d .nilSlc=some false)∧∀T',T.le T'→rowsS T' 1 d=some (iC l):=by
 rcases h with ⟨rfl,rfl⟩|⟨k,cap,ex,rows,acs,h0,h1,rfl,h2,h3,h4⟩
 ·exact⟨.inl ⟨rfl,rfl⟩,fun T' _=>rfl⟩
 ·refine⟨.inr rfl,fun T' hle=> ?_⟩
  simp only[rowsS,E7,hle _ _ h2]
  rw[if_pos ⟨by trivial,by trivial,by have:=a9D h3;omega⟩,List.drop_zero,h3]
theorem c4t{S0 S1 S:b5}{d:D}{l:List Int}{av:List Nat}(h:Own S1 d l S)(hle:S0.le S1)(hav:∀j∈av,S1 j≠none):Sl S0 av d l S:=by
 rcases h with ⟨rfl,rfl,rfl⟩|⟨k,acs,ex,h,rfl,rfl⟩
 ·exact .inl ⟨rfl,rfl⟩
 ·exact .inr ⟨k,l.length,ex,iC l,acs,b5.none_of hle h,fun hm=>hav k hm h,rfl,b5.set_same _ _ _,by rw[List.take_of_length_le (by rw[i4];exact Nat.le_refl _)],Nat.le_refl _⟩
end
end
section
set_option linter.unusedSectionVars false
theorem b1C{bs:List Int}:∀(n p:Nat) (e:Int),a1t bs n p= .error e→e≠0
 |0,p,e,h=>by cases h
 |n+1,p,e,h=>by
  by_cases hp:p<bs.length
  ·rw[a1f hp]at h
   by_cases he:(y9 bs p).2.2=0
   ·rw[if_pos he]at h
    cases hr:a1t bs n (y9 bs p).2.1 with
    |error e'=>rw[hr]at h;cases h;exact b1C n _ _ hr
    |ok l'=>rw[hr]at h;cases h
   ·rw[if_neg he]at h;cases h;exact he
  ·rw[a1t,if_pos (by omega)]at h;cases h
section
variable{E:d6}{w0:i7}
theorem StT.base{S0 S1 T:b5}{k:Nat}{l s:D}{f:Fr}(hle:S0.le S1)(hk0:S1 k=none)(hl:Sl S1 (k::ob s) l f.locals T)(hs:Sl S1 (k::ob l) s f.stack T):S0 k=none∧Sl S0 (k::ob s) l f.locals T∧Sl S0 (k::ob l) s f.stack T:=by
 have go:∀ {av d li},Sl S1 av d li T→Sl S0 av d li T:=fun h=>by
  rcases h with h|⟨k,cap,ex,rows,acs,z0,z1,z2,z3,z4⟩
  ·exact .inl h
  ·exact .inr ⟨k,cap,ex,rows,acs,b5.none_of hle z0,z1,z2,z3,z4⟩
 exact⟨b5.none_of hle hk0,go hl,go hs⟩
theorem b9a{S S':b5}(h:S.le S'){k:Nat}(hk:S k≠none):S' k=S k:=by
 cases e:S k with
 |none=>exact absurd e hk
 |some o=>exact h _ _ e
end
end
section
set_option linter.unusedSectionVars false
theorem b0P(l:List In):j8 (Q1 l)=some (.int .i64 l.length):=by simp[Q1]
def b0n(ys:List In)(ext:List Int)(i:Nat):List Int:=match ys[i]? with
 |some y=>if H8 y then p9 y (ext.getD (i+1) 0)++(if i+1<ys.length then[ext.getD (i+1) 0]else[]) else[]
 |none=>[]
def u4(ys:List In)(ext:List Int)(n:Nat):List Int:=0::(List.range n).flatMap (b0n ys ext)
theorem a0Z(ys:List In)(ext:List Int)(n:Nat):u4 ys ext (n+1)=u4 ys ext n++b0n ys ext n:=by
 unfold u4
 rw[List.range_succ,List.flatMap_append]
 simp
section
variable{E:d6}{w0:i7}
theorem c5U{x0:D}{ys:List In}{ext:List Int}(he:ext.length=ys.length+1)(hyl:ys.length<2^40){k:Nat}{to:List Int}(htl:to.length<2^40){i:Nat}(hi:i<ys.length){N0:D→D→D→D→D→D→D→b5→Prop}{Q:D→b5→Prop}{S:b5}{ts:List (Int×Int×Nat)}(hm:J2 S k ts)
  (hN:∀ts' S',(∀n,n∈ts'.map (·.1)↔n∈ts.map (·.1)∨n∈to++(if i+1<ys.length then[ext.getD (i+1) 0]else[]))→J2 S' k ts'→(∀j,j≠k→S' j=S j)→N0 x0 (Q1 ys) (iD ext) (.mp k) (Q1 ys) (.int .i64 (ys.length:Int)) (.int .i64 ((i:Int)+1)) S'):
  d5 Try.prog E w0 (.loop a0l) (g8 173 [0,4,5,7,8,38,39,40,57,58,59] [x0,Q1 ys,iD ext, .mp k, .int .i64 (i:Int),Q1 ys, .int .i64 (ys.length:Int), .int .i64 (i:Int),iD to, .int .i64 (to.length:Int),(.int .i64 0)]) S (a0q E w0 N0 Q):=by
 refine a8G (I:=fun n y0 x4 x5 x7 x8 x38 x39 x40 x57 x58 x59 T=>x0=y0∧x4=Q1 ys∧x5=iD ext∧x7= .mp k∧x8= .int .i64 (i:Int)∧x38=Q1 ys∧x39= .int .i64 (ys.length:Int)∧x40= .int .i64 (i:Int)∧x57=iD to∧x58= .int .i64 (to.length:Int)∧
   ∃(j:Nat) (ts':List (Int×Int×Nat)),x59= .int .i64 (j:Int)∧j+n=to.length∧(∀m,m∈ts'.map (·.1)↔m∈ts.map (·.1)∨m∈to.take j)∧J2 T k ts'∧∀j,j≠k→T j=S j) ?_ (n:=to.length)
  ⟨rfl,rfl,rfl,rfl,rfl,rfl,rfl,rfl,rfl,rfl,0,ts,rfl,by omega,fun m=>by simp,hm,fun _ _=>rfl⟩
 rintro n _ _ _ _ _ _ _ _ _ _ _ T ⟨rfl,rfl,rfl,rfl,rfl,rfl,rfl,rfl,rfl,rfl,j,ts',rfl,hj,hkeys,hm',hsame⟩
 unfold a2B
 rw[a3K,oD,cdI]
 refine⟨fun hlt=> ?_,fun hge=> ?_⟩
 ·have hlt:j<to.length:=by omega
  have ht:to[j]? =some to[j]:=List.getElem?_eq_getElem hlt
  generalize to[j]=q at ht
  rw[a5a ht,oD,lsE,List.getElem?_cons_zero,oD]
  obtain⟨v,hv⟩:=hm'.look q
  rw[hv,oD,J8,oD]
  refine hm'.put fun ts2 T2 hk2 hm2 hs2=> ?_
  rw[J8,oD,g9 (by omega) (by omega)]
  refine⟨n - 1,by omega,by trivial,by trivial,by trivial,by trivial,by trivial,by trivial,by trivial,by trivial,by trivial,by trivial,j+1,ts2,by trivial,by omega,fun m=> ?_,hm2,fun j hj=>by rw[hs2 j hj,hsame j hj]⟩
  rw[hk2,hkeys,List.take_add_one,ht]
  simp
  constructor
  ·rintro(h|h|h)
   ·exact .inr (.inr h)
   ·exact .inl h
   ·exact .inr (.inl h)
  ·rintro(h|h|h)
   ·exact .inr (.inl h)
   ·exact .inr (.inr h)
   ·exact .inl h
 ·rw[List.take_of_length_le (by omega)]at hkeys
  simp only[J8,oD,b0P,a3K]
  rw[g9 (by omega) (by omega),cdI]
  refine⟨fun h1=> ?_,fun h1=> ?_⟩
  ·have h1:i+1<ys.length:=by omega
   have hx:ext[i+1]? =some (ext.getD (i+1) 0):=by rw[List.getD_eq_getElem?_getD,List.getElem?_eq_getElem (by omega)];rfl
   have hix:m9 1 (iD ext) (.int .i64 ((i:Int)+1))=some (.elt [.int .i64 (ext.getD (i+1) 0)] 0):=a5a hx
   rw[hix,oD,lsE,List.getElem?_cons_zero,oD]
   obtain⟨v,hv⟩:=hm'.look (ext.getD (i+1) 0)
   rw[hv,oD,J8,oD]
   refine hm'.put fun ts2 T2 hk2 hm2 hs2=>hN ts2 T2 (fun m=> ?_) hm2 fun j hj=>by rw[hs2 j hj,hsame j hj]
   rw[hk2,hkeys,if_pos h1]
   simp
   constructor
   ·rintro(h|h|h)
    ·exact .inr (.inr h)
    ·exact .inl h
    ·exact .inr (.inl h)
   ·rintro(h|h|h)
    ·exact .inr (.inl h)
    ·exact .inr (.inr h)
    ·exact .inl h
  ·exact hN ts' T (fun m=>by rw[hkeys,if_neg (by omega),List.append_nil]) hm' hsame
theorem c6o{x0:D}{ys:List In}{ext:List Int}(he:ext.length=ys.length+1)(hyl:ys.length<2^40)(harm:∀y∈ys,y.arms.length≤65535){k:Nat}{Q:D→b5→Prop}{S0 S:b5}{ts:List (Int×Int×Nat)}(hm:J2 S k ts)(hk0:S0 k=none)(hle:S0.le S)(hkeys:∀n,n∈ts.map (·.1)↔n=0)
  (hend:∀ts' S',(∀n,n∈ts'.map (·.1)↔n∈u4 ys ext ys.length)→J2 S' k ts'→S0.le S'→a6R S' (.mp k) fun v54 S55=>d5 Try.prog E w0 (.loop U2) (g8 173 [0,4,5,14,83] [x0,Q1 ys,iD ext, .nilSlc,v54]) S55 (U3 E w0 Q)):
  d5 Try.prog E w0 (.loop a0r) (g8 173 [0,4,5,7,38,39,40] [x0,Q1 ys,iD ext, .mp k,Q1 ys, .int .i64 (ys.length:Int),(.int .i64 0)]) S (a0j E w0 Q):=by
 refine a9x (I:=fun n y0 x4 x5 x7 x38 x39 x40 T=>x0=y0∧x4=Q1 ys∧x5=iD ext∧x7= .mp k∧x38=Q1 ys∧x39= .int .i64 (ys.length:Int)∧
   ∃(i:Nat) (ts':List (Int×Int×Nat)),x40= .int .i64 (i:Int)∧i+n=ys.length∧(∀m,m∈ts'.map (·.1)↔m∈u4 ys ext i)∧J2 T k ts'∧S0.le T) ?_ (n:=ys.length)
  ⟨rfl,rfl,rfl,rfl,rfl,rfl,0,ts,rfl,by omega,fun m=>by rw[hkeys];simp[u4],hm,hle⟩
 rintro n _ _ _ _ _ _ _ T ⟨rfl,rfl,rfl,rfl,rfl,rfl,i,ts',rfl,hi,hks,hm',hle'⟩
 unfold a2E
 rw[a3K,oD,cdI]
 refine⟨fun hlt=> ?_,fun hge=> ?_⟩
 ·have hlt:i<ys.length:=by omega
  have hy:ys[i]? =some ys[i]:=List.getElem?_eq_getElem hlt
  have hmem:ys[i]∈ys:=List.getElem_mem hlt
  generalize ys[i]=y at hy hmem
  have hx:ext[i+1]? =some (ext.getD (i+1) 0):=by rw[List.getD_eq_getElem?_getD,List.getElem?_eq_getElem (by omega)];rfl
  have hix:m9 1 (iD ext) (.int .i64 ((i:Int)+1))=some (.elt [.int .i64 (ext.getD (i+1) 0)] 0):=a5a hx
  have hhd:b0n ys ext i=if H8 y then p9 y (ext.getD (i+1) 0)++(if i+1<ys.length then[ext.getD (i+1) 0]else[]) else[]:=by unfold b0n;rw[hy]
  rw[b1o hy,oD,laE,if_pos ⟨by decide,by simp[inC]⟩,oD]
  intro ka a na
  refine(I5.new (sz:=4) (c:=[.int .u8 0, .int .i64 0, .int .i64 0, .nilSlc])).st (ds:=inC y) (clA _) ⟨rfl,by decide,by simp[inC]⟩ fun c=> ?_
  rw[b5.set_set,show n8 [D.int .u8 0, .int .i64 0, .int .i64 0, .nilSlc] 0 (inC y)=inC y from rfl]
  have ca:I5 (T.set ka ⟨4,[inC y],c⟩) ka 4 (inC y):=I5.new
  have l1:S0.le (T.set ka ⟨4,[inC y],c⟩):=b5.le_trans hle' (b5.le_new na)
  have hne:k≠ka:=fun e=>by have:=hm'.there;rw[e,na]at this;exact this rfl
  have hm1:J2 (T.set ka ⟨4,[inC y],c⟩) k ts':=hm'.of (b5.set_ne _ _ _ hne)
  generalize (T.set ka ⟨4,[inC y],c⟩)=T1 at ca l1 hm1
  rw[ca.all (n:=4) (by decide) rfl,oD,J8,oD,g9 (by omega) (by omega),hix,oD,lsE,List.getElem?_cons_zero,oD]
  refine(show r7 Try.prog E w0 I9 [inD y, .int .i64 (ext.getD (i+1) 0)] T1 _ from(a4f (harm y hmem)).use ?_)
  simp only[exD,List.getElem?_cons_zero,List.getElem?_cons_succ,oD,unN]
  cases hen:H8 y with
  |false=>
   rw[Bool.not_false,cdT]
   refine⟨n - 1,by omega,by trivial,by trivial,by trivial,by trivial,by trivial,by trivial,i+1,ts',by trivial,by omega,fun m=> ?_,hm1,l1⟩
   rw[a0Z,hhd,hen,hks];simp
  |true=>
   rw[Bool.not_true,cdF,a3T,oD]
   have hll:=a8F (harm y hmem) (ext.getD (i+1) 0)
   refine c5U he hyl (by omega) hlt hm1 fun ts2 T2 hk2 hm2 hs2=> ?_
   refine⟨n - 1,by omega,by trivial,by trivial,by trivial,by trivial,by trivial,by trivial,i+1,ts2,by trivial,by omega,fun m=> ?_,hm2,fun j o hj=> ?_⟩
   ·rw[hk2,a0Z,hhd,hen,hks,if_pos rfl]
    simp only[List.mem_append]
   ·rw[hs2 j (fun e=>by rw[e,hk0]at hj;cases hj)];exact l1 _ _ hj
 ·have:i=ys.length:=by omega
  subst this
  exact hend ts' T hks hm' hle'
theorem a0D{α:Type}[DecidableEq α]:∀ {l1 l2:List α},l1.Nodup→(∀a∈l1,a∈l2)→l1.length≤l2.length
 | [],_,_,_=>Nat.zero_le _
 |a::l1,l2,h,hs=>by
  rw[List.nodup_cons]at h
  have ha:=hs a List.mem_cons_self
  have h1:=List.length_erase_of_mem ha
  have h2:=List.length_pos_of_mem ha
  have:=a0D h.2 (l2:=l2.erase a) fun b hb=>(List.mem_erase_of_ne (fun e=>h.1 (by rw[←e];exact hb))).2 (hs b (List.mem_cons_of_mem _ hb))
  rw[List.length_cons]
  omega
theorem b7q{l hs:List Int}(hn:l.Nodup)(h:∀n,n∈l↔n∈hs):srt l=a0t hs:=by
 refine Z0 ?_ (C9 hs).1 fun n=> ?_
 ·have h1:(srt l).Pairwise fun a b=>a≤b:=by
   have:=List.pairwise_mergeSort (le:=fun x y:Int=>decide (x≤y)) (fun a b c h1 h2=>by simp at*;omega) (fun a b=>by simp;omega) l
   exact this.imp fun h=>by simpa using h
  have h2:(srt l).Nodup:=(List.mergeSort_perm l _).nodup_iff.2 hn
  exact(h1.and h2).imp fun⟨a,b⟩=>by omega
 ·unfold srt
  rw[List.mem_mergeSort,h,(C9 hs).2]
theorem c2t{S0 S:b5}{av:List Nat}{d:D}{l:List Int}(h:X0 S0 av d (iC l) 1 S)(h0:l≠[])(hl:l.length<2^60){Q:D→b5→Prop}(hQ:∀v k acs S',S0 k=none→k ∉ av→d= .raw k 0 l.length l.length false 1→S' k=some ⟨1,iC (srt l),acs⟩→(∀j,j≠k→S' j=S j)→Q v S'):r7 Try.prog E w0 H4 [d] S Q:=by
 rcases h with ⟨_,e⟩|⟨k,acs,hk,hav,rfl,hS⟩
 ·exact absurd e (fun e=>h0 (by cases l with|nil=>rfl|cons a l=>simp[iC,U6]at e))
 ·refine b1q.fnD (zs:=l) hS rfl (by simp) (by rw[List.drop_zero,List.take_of_length_le (Nat.le_refl _),X5]) (by rw[i4];omega) fun acs'=> ?_
  refine hQ _ k acs' _ hk hav (by rw[i4]) ?_ fun j hj=>b5.set_ne _ _ _ hj
  rw[b5.set_same,List.take_zero,List.nil_append,Nat.zero_add,List.drop_of_length_le (Nat.le_refl _),List.append_nil,X5]
theorem c6q{x0:D}{ys:List In}{ext hs:List Int}{m:Nat}{Q:D→b5→Prop}{S0 S:b5}{ts:List (Int×Int×Nat)}{j:Nat}(hw:a3r S j m [] ts)(hj0:S0 j=none)(hle:S0.le S)(hkn:(ts.map (·.1)).Nodup)(hst:(ts.map (·.2.2)).Nodup)(hks:∀n,n∈ts.map (·.1)↔n∈hs)(hne:hs≠[])(hlen:ts.length<2^40)
  (hend:∀k acs S',S0 k=none→S' k=some ⟨1,iC (a0t hs),acs⟩→S0.le S'→d5 Try.prog E w0 (.loop U1) (g8 173 [0,5,14,16,94,95,96] [x0,iD ext, .raw k 0 (a0t hs).length (a0t hs).length false 1, .nilSlc,Q1 ys, .int .i64 (ys.length:Int),(.int .i64 0)]) S' (U8 E w0 Q)):
  d5 Try.prog E w0 (.loop U2) (g8 173 [0,4,5,14,83] [x0,Q1 ys,iD ext, .nilSlc, .ptr j 0]) S (U3 E w0 Q):=by
 refine a8Z (I:=fun n y0 x4 x5 x14 x83 T=>x0=y0∧x4=Q1 ys∧x5=iD ext∧x83= .ptr j 0∧∃dn:List (Int×Int×Nat),dn.length+n=ts.length∧(∀t∈dn,t∈ts)∧dn.Nodup∧a3r T j m dn ts∧X0 S0 [j] x14 (iC (dn.map (·.1))) 1 T∧S0.le T) ?_ (n:=ts.length)
  ⟨rfl,rfl,rfl,rfl,[],by simp,by simp,by simp,hw,X0.nil,hle⟩
 rintro n _ _ _ x14 _ T ⟨rfl,rfl,rfl,rfl,dn,hn,hsub,hdn,hw,hg,hle⟩
 unfold a2F
 refine hw.next hst hsub (fun t ht htn S' hw' hs'=> ?_) fun hall=> ?_
 ·simp only[exD,List.getElem?_cons_zero,List.getElem?_cons_succ,oD,cdT]
  refine hw'.entry ht ?_
  simp only[exD,List.getElem?_cons_zero,List.getElem?_cons_succ,oD]
  rw[show A1 1 (List.replicate 1 [D.int .i64 0]) [(0, .int .i64 t.1)]=some (iC [t.1]) from rfl]
  refine V4 rfl ?_
  have hle':S0.le S':=fun i o hi=>by rw[hs' i (fun e=>by rw[e,hj0]at hi;cases hi)];exact hle _ _ hi
  have hg':X0 S0 [j] x14 (iC (dn.map (·.1))) 1 S':=hg.of fun i o hi e=>by rw[hs' i (by simpa using hi)];exact e
  have hdl:dn.length+1≤ts.length:=by
   have:(dn++[t]).Nodup:=by
    rw[List.nodup_append]
    exact⟨hdn,by simp,fun a ha b hb=>by simp at hb;subst hb;exact fun e=>htn (by rw[←e];exact ha)⟩
   have:=a0D this (l2:=ts) fun a ha=>by
    rcases List.mem_append.1 ha with ha|ha
    ·exact hsub a ha
    ·rw[List.mem_singleton.1 ha];exact ht
   simpa using this
  refine hg'.push hle' (fun i hi=>by rw[List.mem_singleton.1 hi];exact hw'.there) (bytes:=8) (news:=iC [t.1]) (by simp[rowsS,E7]) (by simp[iC,U6]) (by rw[i4,i4,List.length_map];simp;omega) fun t' S2 hle2 he2 hg2=> ?_
  refine⟨n - 1,by omega,by trivial,by trivial,by trivial,by trivial,dn++[t],by simp;omega,fun a ha=> ?_, ?_,hw'.of (he2 j (by simp)), ?_,hle2⟩
  ·rcases List.mem_append.1 ha with ha|ha
   ·exact hsub a ha
   ·rw[List.mem_singleton.1 ha];exact ht
  ·rw[List.nodup_append]
   exact⟨hdn,by simp,fun a ha b hb=>by simp at hb;subst hb;exact fun e=>htn (by rw[←e];exact ha)⟩
  ·rw[List.map_append,a0d];exact hg2
 ·simp only[exD,List.getElem?_cons_zero,List.getElem?_cons_succ,oD,cdF]
  have hkeys:∀q,q∈dn.map (·.1)↔q∈hs:=fun q=>by
   rw[←hks]
   constructor
   ·intro h
    obtain⟨t,ht,e⟩:=List.mem_map.1 h
    exact List.mem_map.2 ⟨t,hsub t ht,e⟩
   ·intro h
    obtain⟨t,ht,e⟩:=List.mem_map.1 h
    exact List.mem_map.2 ⟨t,hall t ht,e⟩
  have hnd:(dn.map (·.1)).Nodup:=by
   rw[List.Nodup,List.pairwise_map]
   exact hdn.imp_of_mem fun{a b} ha hb hab e=>hab (a5z hkn (hsub a ha) (hsub b hb) e)
  have h0:dn.map (·.1)≠[]:=fun e=>by
   cases hs with
   |nil=>exact hne rfl
   |cons a hs=>have:=(hkeys a).2 List.mem_cons_self;rw[e]at this;cases this
  have hsr:=b7q hnd hkeys
  have hl:=a3R (dn.map (·.1))
  rw[hsr]at hl
  refine c2t hg h0 (by simp;omega) fun v k acs S' hk hav hd hS' hsame=> ?_
  rw[hd,b0P,oD, ←hl]
  refine hend k acs S' hk (by rw[hS',hsr]) fun i o hi=> ?_
  rw[hsame i (fun e=>by rw[e,hk]at hi;cases hi)]
  exact hle _ _ hi
end
end
section
set_option linter.unusedSectionVars false
structure I7 where
 at':Int
 end':Int
 next:List Int
 deriving DecidableEq
def F7(b:I7):List D:=[.int .i64 b.at', .int .i64 b.end',iD b.next]
def A0(l:List I7):D:= .lst (l.map F7) 3
def a0p(l:List I7)(e:Int)(n:List Int):List I7:=match l.getLast? with
 |some b=>l.dropLast++[⟨b.at',e,n⟩]
 |none=>[]
def b5m(ys:List In)(ext:List Int)(i:Nat)(st:List Int×List I7):List Int×List I7:=match ys[i]? with
 |some y=>if st.1.head? =some (ext.getD i 0) then(st.1.tail,st.2++[⟨ext.getD i 0,ext.getD (i+1) 0,p9 y (ext.getD (i+1) 0)⟩])
  else(st.1,a0p st.2 (ext.getD (i+1) 0) (p9 y (ext.getD (i+1) 0)))
 |none=>st
def A6(ys:List In)(ext tops:List Int):Nat→List Int×List I7
 |0=>(tops,[])
 |n+1=>b5m ys ext n (A6 ys ext tops n)
theorem a3H(l:List I7)(b:I7)(e:Int)(n:List Int):a0p (l++[b]) e n=l++[⟨b.at',e,n⟩]:=by
 unfold a0p
 simp
theorem b1S{ys:List In}{ext tops:List Int}(h0:tops.head? =some (ext.getD 0 0)):∀ {n:Nat},0<n→n≤ys.length→(A6 ys ext tops n).2≠[]
 |0,h,_=>by omega
 |n+1,_,hn=>by
  have hlt:n<ys.length:=hn
  obtain⟨y,hy⟩:∃y,ys[n]? =some y:=⟨_,List.getElem?_eq_getElem hlt⟩
  simp only[A6,b5m,hy]
  by_cases hc:(A6 ys ext tops n).1.head? =some (ext.getD n 0)
  ·rw[if_pos hc];simp
  ·rw[if_neg hc]
   cases n with
   |zero=>exact absurd h0 hc
   |succ n=>
    have:=b1S (ys:=ys) h0 (n:=n+1) (by omega) (by omega)
    obtain⟨l,b,e⟩:∃l b,(A6 ys ext tops (n+1)).2=l++[b]:=⟨_,_,(List.dropLast_concat_getLast this).symm⟩
    show a0p (A6 ys ext tops (n+1)).2 _ _≠[]
    rw[e,a3H]
    simp
section
variable{E:d6}{w0:i7}
theorem b9v{S0 S:b5}{t:D}{rows:List (List D)}{row:List D}(hg:X0 S0 [] t (rows++[row]) 3 S)(hle:S0.le S):∃p,m9 3 t (.int .i64 (rows.length:Int))=some p∧a2M p=some p∧
  ∀(i:Nat) (v:D),i<row.length→r5 v=some [v]→∃q,t6 i p=some q∧∀K:D→b5→Prop,(∀S',X0 S0 [] t (rows++[row.set i v]) 3 S'→S0.le S'→K b6 S')→j1 S 1 q v K:=by
 rcases hg with ⟨_,e⟩|⟨k,acs,h0,h1,rfl,h3⟩
 ·simp at e
 ·refine⟨_,c3y (by simp),ndR ..,fun i v hi hv=>⟨_,ofR ..,fun K hK=> ?_⟩⟩
  refine stR h3 (rows:=rows++[row]) (row:=row) (by simp) hv ⟨rfl,by decide,by show 0+i+1≤row.length;omega⟩ fun acs'=> ?_
  have e:(rows++[row]).set (0+rows.length) (n8 row (0+i) [v])=rows++[row.set i v]:=by
   rw[Nat.zero_add,Nat.zero_add,List.set_append_right _ _ (Nat.le_refl _),Nat.sub_self];rfl
  rw[e]
  refine hK _ (.inr ⟨k,acs',h0,h1,by simp,b5.set_same _ _ _⟩) (b5.le_set hle h0)
theorem c3B{x0 x14 x16 x94 x95:D}{ys:List In}{ext:List Int}{i:Nat}(hi:i<ys.length)(hyl:ys.length<2^40)(he:ext.length=ys.length+1){N3:D→D→D→D→D→D→D→b5→Prop}{Q:D→b5→Prop}{S0 S:b5}{rows:List (List D)}{a:D}{e0 n0:D}{to:List Int}(hrl:rows.length<2^40)
  (hg:X0 S0 [] x16 (rows++[[a,e0,n0]]) 3 S) (hle:S0.le S)
  (hN:∀S',X0 S0 [] x16 (rows++[[a, .int .i64 (ext.getD (i+1) 0),iD to]]) 3 S'→S0.le S'→N3 x0 (iD ext) x14 x16 x94 x95 (.int .i64 ((i:Int)+1)) S'):
  N8 E w0 N3 Q x0 (iD ext) x14 x16 (.int .i64 (i:Int)) (iD to) x94 x95 (.int .i64 (i:Int)) S:=by
 refine a8l ?_
 unfold a4s
 have hx:ext[i+1]? =some (ext.getD (i+1) 0):=by rw[List.getD_eq_getElem?_getD,List.getElem?_eq_getElem (by omega)];rfl
 have hix:m9 1 (iD ext) (.int .i64 ((i:Int)+1))=some (.elt [.int .i64 (ext.getD (i+1) 0)] 0):=a5a hx
 have hsub:IntKind.i64.wrap (((rows++[[a,e0,n0]]).length:Int) - 1)=(rows.length:Int):=by
  rw[List.length_append,List.length_singleton,g9 (by omega) (by omega)]
  omega
 rw[hg.len,oD,a7o,oD,hsub]
 obtain⟨p,p1,p2,p3⟩:=b9v hg hle
 rw[p1,oD,J8,oD,g9 (by omega) (by omega),hix,oD,lsE,List.getElem?_cons_zero,oD,p2,oD]
 obtain⟨q,q1,q2⟩:=p3 1 (.int .i64 (ext.getD (i+1) 0)) (by simp) rfl
 rw[q1,oD]
 refine q2 _ fun S1 hg1 hle1=> ?_
 rw[oD]
 obtain⟨p',p1',_,p3'⟩:=b9v hg1 hle1
 rw[p1]at p1'
 cases p1'
 obtain⟨q',q1',q2'⟩:=p3' 2 (iD to) (by simp) rfl
 rw[q1',oD]
 refine q2' _ fun S2 hg2 hle2=> ?_
 rw[oD]
 exact hN S2 hg2 hle2
end
end
end Go.Proofs.Ytdkidgkiplcggaa.d
end
section
namespace Go.Am
def prs(ts:List (Int×Int×Nat)):List (Int×Int):=ts.map fun t=>(t.1,t.2.1)
theorem J2.lookV{S:b5}{k:Nat}{ts:List (Int×Int×Nat)}(h:J2 S k ts)(q:Int)(ok:Bool):
  (∃v:Int,(q,v)∈prs ts∧a4D S 0 (.int .i64 0) ok (.mp k) (.int .i64 q)=some (if ok then .tup [.int .i64 v, .bool true]else .int .i64 v))∨
  ((∀v,(q,v) ∉ prs ts)∧a4D S 0 (.int .i64 0) ok (.mp k) (.int .i64 q)=some (if ok then .tup [.int .i64 0, .bool false]else .int .i64 0)):=by
 obtain⟨acs,hS⟩:=h.has
 simp only[a4D,a7E,b8l,hS,a5C,beq_self_eq_true,if_true]
 rcases a1I q ts 0 with ⟨h1,h2⟩|⟨j,t,h1,h2,h3⟩
 ·refine .inr ⟨fun v hv=>h1 ?_,by rw[h2];rfl⟩
  obtain⟨t,ht,e⟩:=List.mem_map.1 hv
  simp only[Prod.mk.injEq]at e
  exact List.mem_map.2 ⟨t,ht,e.1⟩
 ·refine .inl ⟨t.2.1,List.mem_map.2 ⟨t,List.mem_of_getElem? h1,by rw[h2]⟩,by rw[h3];rfl⟩
theorem c2H{ts:List (Int×Int×Nat)}(h:(ts.map (·.1)).Nodup){q v v':Int}(h1:(q,v)∈prs ts)(h2:(q,v')∈prs ts):v=v':=by
 obtain⟨t,ht,e⟩:=List.mem_map.1 h1
 obtain⟨t',ht',e'⟩:=List.mem_map.1 h2
 simp only[Prod.mk.injEq]at e e'
 have:=a5z (f:=fun t:Int×Int×Nat=>t.1) h ht ht' (by rw[e.1,e'.1])
 subst this
 rw[←e.2, ←e'.2]
theorem J2.putV{S:b5}{k:Nat}{ts:List (Int×Int×Nat)}(h:J2 S k ts){q v:Int}{K:D→b5→Prop}
  (hK:∀ts' S',(∀n x,(n,x)∈prs ts'↔(n=q∧x=v)∨(n≠q∧(n,x)∈prs ts))→J2 S' k ts'→(∀j,j≠k→S' j=S j)→K b6 S'):b0z S 0 (.mp k) (.int .i64 q) (.int .i64 v) K:=by
 obtain⟨acs,hS⟩:=h.has
 simp only[b0z,a7E,hS,a5C,beq_self_eq_true,if_true]
 rcases a1I q ts 0 with ⟨h1,h2⟩|⟨j,t,h1,h2,h3⟩
 ·rw[h2]
  intro n acs' hn
  refine hK (ts++[(q,v,n)]) _ (fun m x=> ?_) ⟨⟨acs',by rw[b5.set_same,List.map_append];rfl⟩, ?_, ?_⟩ fun j hj=>b5.set_ne _ _ _ hj
  ·unfold prs
   rw[List.map_append,List.mem_append]
   simp only[List.map_cons,List.map_nil,List.mem_singleton,Prod.mk.injEq]
   constructor
   ·rintro(h|h)
    ·refine .inr ⟨fun e=>h1 ?_,h⟩
     obtain⟨t,ht,e'⟩:=List.mem_map.1 h
     simp only[Prod.mk.injEq]at e'
     exact List.mem_map.2 ⟨t,ht,by rw[e'.1,e]⟩
    ·exact .inl h
   ·rintro(h|h)
    ·exact .inr h
    ·exact .inl h.2
  ·rw[List.map_append,List.nodup_append]
   exact⟨h.keys,by simp,fun a ha b hb=>by simp at hb;subst hb;exact fun e=>h1 (by rw[←e];exact ha)⟩
  ·rw[List.map_append,List.nodup_append]
   refine⟨h.stamps,by simp,fun a ha b hb=> ?_⟩
   simp at hb
   subst hb
   rintro rfl
   obtain⟨t,ht,e⟩:=List.mem_map.1 ha
   exact hn (b0s t) (List.mem_map.2 ⟨t,ht,rfl⟩) (by simp[b0s,e])
 ·rw[h3]
  intro acs'
  have hj:j<ts.length:=(List.getElem?_eq_some_iff.1 h1).1
  have e0:∀ {α:Type} (f:Int×Int×Nat→α),f (q,v,t.2.2)=f t→(ts.set j (q,v,t.2.2)).map f=ts.map f:=fun f hf=>by
   rw[List.map_set,hf]
   apply List.ext_getElem?
   intro i
   rw[List.getElem?_set]
   split
   ·rename_i e
    subst e
    rw[List.length_map,if_pos hj,List.getElem?_map,h1];rfl
   ·rfl
  have k1:=e0 (·.1) h2.symm
  have k2:=e0 (·.2.2) rfl
  have hkn:((ts.set j (q,v,t.2.2)).map (·.1)).Nodup:=by rw[k1];exact h.keys
  refine hK (ts.set j (q,v,t.2.2)) _ (fun n x=> ?_) ⟨⟨acs', ?_⟩,hkn,by rw[k2];exact h.stamps⟩ fun j hj=>b5.set_ne _ _ _ hj
  ·have hq:(q,v)∈prs (ts.set j (q,v,t.2.2)):=List.mem_map.2 ⟨_,List.mem_set hj _,rfl⟩
   constructor
   ·intro hm
    by_cases hn:n=q
    ·subst hn;exact .inl ⟨rfl,c2H hkn hm hq⟩
    ·refine .inr ⟨hn, ?_⟩
     obtain⟨t',ht',e⟩:=List.mem_map.1 hm
     rcases List.mem_or_eq_of_mem_set ht' with ht'|rfl
     ·exact List.mem_map.2 ⟨t',ht',e⟩
     ·simp only[Prod.mk.injEq]at e;exact absurd e.1.symm hn
   ·rintro(⟨rfl,rfl⟩|⟨hn,hm⟩)
    ·exact hq
    ·obtain⟨t',ht',e⟩:=List.mem_map.1 hm
     simp only[Prod.mk.injEq]at e
     obtain⟨i,hi⟩:=List.getElem?_of_mem ht'
     have hij:j≠i:=fun e'=>by
      subst e'
      rw[h1]at hi
      cases hi
      exact hn (by rw[←e.1,h2])
     refine List.mem_map.2 ⟨t',List.mem_of_getElem? (i:=i) ?_,by rw[e.1,e.2]⟩
     rw[List.getElem?_set,if_neg hij];exact hi
  ·rw[b5.set_same,List.map_set,Nat.zero_add];rfl
end Go.Am
end
section
open Go.Proofs Go Go.Am Go.Op
namespace Go.Proofs.Ytdkidgkiplcggaa.d
section
set_option linter.unusedSectionVars false
def s8(l:List I7)(n:Int):Option Nat:=l.findIdx? fun b=>decide (b.at'=n)
theorem a0Y(b:I7)(l:List I7)(n:Int):s8 (b::l) n=if b.at'=n then some 0 else(s8 l n).map (· +1):=by
 unfold s8
 rw[List.findIdx?_cons]
 by_cases h:b.at'=n
 ·rw[if_pos h,decide_eq_true h];rfl
 ·rw[if_neg h,decide_eq_false h];rfl
theorem L0{l:List I7}{i:Nat}{b:I7}(h:l[i]? =some b):m9 3 (A0 l) (.int .i64 (i:Int))=some (.elt (F7 b) 0):=b5F (by rw[List.getElem?_map,h];rfl)
theorem Q8(l:List I7):j8 (A0 l)=some (.int .i64 l.length):=by simp[A0]
def AtM(l:List I7)(ts:List (Int×Int×Nat))(i:Nat):Prop:=∀n x,(n,x)∈prs ts↔ ∃j,s8 (l.drop i) n=some j∧x=((i+j:Nat):Int)
section
variable{E:d6}{w0:i7}
theorem c5Z{l:List I7}(hl:l.length<2^40){k:Nat}{Q:D→b5→Prop}{S0 S:b5}(hm:J2 S k [])(hk0:S0 k=none)(hle:S0.le S)
  (hend:∀ts S',J2 S' k ts→AtM l ts 0→S0.le S'→b2k S' fun v11 S12=>a8 (j8 (A0 l)) fun v55=>a8 (d4 .gtr v55 (.int .i64 0)) fun v56=>d9 v56
   (M2 S12 1 (A1 1 (List.replicate 1 [(.int .i64 0)]) [(0,(.int .i64 0))]) 1 fun v57 S58=>C8 E w0 Q (A0 l) (.mp k) v11 v57 S58)
   (C8 E w0 Q (A0 l) (.mp k) v11 .nilSlc S12)):
  d5 Try.prog E w0 (.loop P4) (g8 79 [0,3,4] [A0 l, .mp k, .int .i64 ((l.length:Int) - 1)]) S (Q6 E w0 Q):=by
 refine a5Z (I:=fun n x0 x3 x4 T=>x0=A0 l∧x3= .mp k∧x4= .int .i64 ((n:Int) - 1)∧n≤l.length∧∃ts,J2 T k ts∧AtM l ts n∧S0.le T) ?_ (n:=l.length)
  ⟨rfl,rfl,rfl,Nat.le_refl _,[],hm,fun n x=>by simp[prs,s8],hle⟩
 rintro n _ _ _ T ⟨rfl,rfl,rfl,hn,ts,hm,ha,hle⟩
 unfold Y9
 rw[c0E,oD,cdI]
 refine⟨fun hge=> ?_,fun hlt=> ?_⟩
 ·obtain⟨i,rfl⟩:∃i,n=i+1:=⟨n - 1,by omega⟩
  have e1:((i+1:Nat):Int) - 1=(i:Int):=by omega
  rw[e1]
  have hb:l[i]? =some l[i]:=List.getElem?_eq_getElem (by omega)
  have hd:l.drop i=l[i]::l.drop (i+1):=List.drop_eq_getElem_cons (by omega)
  generalize l[i]=b at hb hd
  rw[L0 hb,oD,ofE,oD,lsE,show(F7 b)[0+0]? =some (.int .i64 b.at') from rfl,oD]
  refine hm.putV fun ts' S' hp hm' hs'=> ?_
  rw[a7o,oD,g9 (by omega) (by omega)]
  refine⟨i,by omega,rfl,rfl,rfl,by omega,ts',hm',fun q x=> ?_,fun j o hj=>by rw[hs' j (fun e=>by rw[e,hk0]at hj;cases hj)];exact hle _ _ hj⟩
  rw[hp,hd,a0Y]
  by_cases hq:b.at'=q
  ·rw[if_pos hq]
   constructor
   ·rintro(⟨_,rfl⟩|⟨h,_⟩)
    ·exact⟨0,rfl,rfl⟩
    ·exact absurd hq.symm h
   ·rintro⟨j,hj,rfl⟩
    cases hj
    exact .inl ⟨hq.symm,rfl⟩
  ·rw[if_neg hq]
   constructor
   ·rintro(⟨h,_⟩|⟨_,h⟩)
    ·exact absurd h.symm hq
    ·obtain⟨j,hj,rfl⟩:=(ha q x).1 h
     exact⟨j+1,by rw[hj];rfl,by omega⟩
   ·rintro⟨j,hj,rfl⟩
    refine .inr ⟨fun h=>hq h.symm,(ha q _).2 ?_⟩
    cases hf:s8 (l.drop (i+1)) q with
    |none=>rw[hf]at hj;cases hj
    |some j'=>rw[hf]at hj;cases hj;exact⟨j',rfl,by show((i+(j'+1):Nat):Int)=((i+1+j':Nat):Int);omega⟩
 ·have:n=0:=by omega
  subst this
  exact hend ts T hm ha hle
end
end
section
set_option linter.unusedSectionVars false
theorem c4a{S0 T:b5}{av:List Nat}{d:D}{l:List Int}(h:Sl S0 av d l T){n:Nat}(hn:n≤l.length):∃d',V3 1 d none (some (.int .i64 (n:Int))) none=some d'∧ob d'=ob d∧Sl S0 av d' (l.take n) T:=by
 rcases h with ⟨rfl,rfl⟩|⟨k,cap,ex,rows,acs,h0,h1,rfl,h2,h3,h4⟩
 ·have:n=0:=by simpa using hn
  subst this
  exact⟨.nilSlc,rfl,rfl, .inl ⟨rfl,rfl⟩⟩
 ·have hnl:(l.take n).length=n:=by rw[List.length_take];omega
  refine⟨.raw k (0+0) (n - 0) (cap - 0) (ex||false) 1, ?_,rfl, .inr ⟨k,cap,ex||false,rows,acs,h0,h1,by rw[hnl];rfl,h2, ?_,by rw[hnl];omega⟩⟩
  ·simp only[V3,E5,b4H,a5g,b0N,if_true,Option.bind_some,c4J (show n≤cap by omega),Option.map_some,Option.isSome_none]
  ·rw[hnl]
   have:=congrArg (List.take n) h3
   rw[List.take_take,Nat.min_eq_left hn]at this
   rw[this]
   simp[iC,U6,List.map_take]
def R7(l:List I7)(ns:List Int):List Int:=(ns.filterMap (s8 l)).map fun i:Nat=>(i:Int)
theorem b2W(l:List I7)(ns:List Int):(R7 l ns).length≤ns.length:=by
 unfold R7
 rw[List.length_map]
 exact List.length_filterMap_le _ _
section
variable{E:d6}{w0:i7}
theorem c6d{l:List I7}{k k2:Nat}{ts:List (Int×Int×Nat)}(ha:AtM l ts 0){next todo:List Int}(hnl:next.length<2^38)(htl:todo.length<2^39){N1:D→D→D→D→b5→Prop}{Q:D→b5→Prop}{S0 S:b5}(hm:J2 S k ts)(hk2:S k2≠none){x6:D}(ht:Sl S0 [k,k2] x6 todo S)(hle:S0.le S)
  (hN:∀d' S',Sl S0 [k,k2] d' (todo++R7 l next) S'→S0.le S'→S' k=S k→S' k2=S k2→N1 (A0 l) (.mp k) (.mp k2) d' S'):
  d5 Try.prog E w0 (.loop P7) (g8 79 [0,3,5,6,58,59,60] [A0 l, .mp k, .mp k2,x6,iD next, .int .i64 (next.length:Int),(.int .i64 0)]) S (P8 E w0 N1 Q):=by
 refine a5Y (I:=fun n x0 x3 x5 x6 x58 x59 x60 T=>x0=A0 l∧x3= .mp k∧x5= .mp k2∧x58=iD next∧x59= .int .i64 (next.length:Int)∧∃j:Nat,x60= .int .i64 (j:Int)∧j+n=next.length∧Sl S0 [k,k2] x6 (todo++R7 l (next.take j)) T∧S0.le T∧T k=S k∧T k2=S k2) ?_ (n:=next.length)
  ⟨rfl,rfl,rfl,rfl,rfl,0,rfl,by omega,by simpa [R7]using ht,hle,rfl,rfl⟩
 rintro n _ _ _ x6 _ _ _ T ⟨rfl,rfl,rfl,rfl,rfl,j,rfl,hj,hs,hle,e1,e2⟩
 unfold Z3
 rw[a3K,oD,cdI]
 refine⟨fun hlt=> ?_,fun hge=> ?_⟩
 ·have hlt:j<next.length:=by omega
  have hq:next[j]? =some next[j]:=List.getElem?_eq_getElem hlt
  generalize next[j]=q at hq
  have hm':J2 T k ts:=hm.of e1
  rw[a5a hq,oD,lsE,List.getElem?_cons_zero,oD]
  rcases hm'.lookV q true with ⟨v,hv,h1⟩|⟨hv,h1⟩
  ·obtain⟨i,hi,rfl⟩:=(ha q v).1 hv
   rw[List.drop_zero]at hi
   have hn:R7 l (next.take (j+1))=R7 l (next.take j)++[((0+i:Nat):Int)]:=by
    unfold R7
    rw[List.take_add_one,hq,List.filterMap_append,List.map_append]
    simp[hi]
   rw[h1]
   simp only[if_true,exD,List.getElem?_cons_zero,List.getElem?_cons_succ,oD,cdT]
   rw[show A1 1 (List.replicate 1 [D.int .i64 0]) [(0, .int .i64 ((0+i:Nat):Int))]=some (iC [((0+i:Nat):Int)]) from rfl]
   refine V4 rfl ?_
   have hlen:=b2W l (next.take j)
   rw[List.length_take]at hlen
   refine hs.push hle (fun x hx=> ?_) (news:=[((0+i:Nat):Int)]) (by simp[rowsS,E7]) (by rw[List.length_append,List.length_singleton];omega) fun d' T' hle' hav hs'=> ?_
   ·rcases List.mem_cons.1 hx with rfl|hx
    ·rw[e1];exact hm.there
    ·rw[List.mem_singleton.1 hx,e2];exact hk2
   ·rw[J8,oD,g9 (by omega) (by omega)]
    refine⟨n - 1,by omega,by trivial,by trivial,by trivial,by trivial,by trivial,j+1,by trivial,by omega, ?_,hle',by rw[hav k (by simp),e1],by rw[hav k2 (by simp),e2]⟩
    rw[hn, ←List.append_assoc];exact hs'
  ·have hn:R7 l (next.take (j+1))=R7 l (next.take j):=by
    have:s8 l q=none:=by
     cases hf:s8 l q with
     |none=>rfl
     |some i=>exact absurd ((ha q _).2 ⟨i,by rw[List.drop_zero];exact hf,rfl⟩) (hv _)
    unfold R7
    rw[List.take_add_one,hq,List.filterMap_append,List.map_append]
    simp[this]
   rw[h1]
   simp only[if_true,exD,List.getElem?_cons_zero,List.getElem?_cons_succ,oD,cdF,J8]
   rw[g9 (by omega) (by omega)]
   exact⟨n - 1,by omega,by trivial,by trivial,by trivial,by trivial,by trivial,j+1,by trivial,by omega,by rw[hn];exact hs,hle,e1,e2⟩
 ·rw[List.take_of_length_le (by omega)]at hs
  exact hN _ T hs hle e1 e2
end
end
section
set_option linter.unusedSectionVars false
inductive a3c (l:List I7):Int→Prop
 |base {b:I7}:l[0]? =some b→a3c l b.at'
 |step {a n:Int} {i:Nat} {b:I7}:a3c l a→s8 l a=some i→l[i]? =some b→n∈b.next→(s8 l n).isSome=true→a3c l n
def wgt(p:Int→Bool):List I7→Nat
 | []=>0
 |b::l=>(if p b.at' then b.next.length+1 else 0)+wgt p l
theorem b8P{p p':Int→Bool}(h:∀a,p' a=true→p a=true):∀l:List I7,wgt p' l≤wgt p l
 | []=>Nat.le_refl _
 |b::l=>by
  have:=b8P h l
  simp only[wgt]
  by_cases h1:p' b.at'=true
  ·rw[if_pos h1,if_pos (h _ h1)];omega
  ·rw[if_neg h1];split<;>omega
theorem b6E{p p':Int→Bool}(h:∀a,p' a=true→p a=true){b:I7}(h1:p b.at'=true)(h2:p' b.at'=false):∀ {l:List I7},b∈l→wgt p' l+(b.next.length+1)≤wgt p l
 | [],hb=>by cases hb
 |c::l,hb=>by
  simp only[wgt]
  rcases List.mem_cons.1 hb with rfl|hb
  ·have:=b8P h l
   rw[if_pos h1,h2]
   simp only[Bool.false_eq_true,if_false]
   omega
  ·have:=b6E h h1 h2 hb
   by_cases h3:p' c.at'=true
   ·rw[if_pos h3,if_pos (h _ h3)];omega
   ·rw[if_neg h3];split<;>omega
theorem Q9{l:List I7}{n:Int}{i:Nat}(h:s8 l n=some i):∃b,l[i]? =some b∧b.at'=n:=by
 unfold s8 at h
 rw[List.findIdx?_eq_some_iff_getElem]at h
 obtain⟨hi,he,_⟩:=h
 exact⟨l[i],List.getElem?_eq_getElem hi,by simpa using he⟩
structure b1F (l:List I7) (todo:List Int) (ts:List (Int×Int×Nat)):Prop where
 one:∀n x,(n,x)∈prs ts→x=1∧a3c l n
 num:∀t∈todo,∃(i:Nat) (b:I7),t=(i:Int)∧l[i]? =some b∧s8 l b.at'=some i∧a3c l b.at'
 nxt:∀a i b n i',(a,(1:Int))∈prs ts→s8 l a=some i→l[i]? =some b→n∈b.next→s8 l n=some i'→(n,(1:Int))∈prs ts∨(i':Int)∈todo
 bas:∀b,l[0]? =some b→(b.at',(1:Int))∈prs ts∨(0:Int)∈todo
theorem b1F.done{l:List I7}{ts:List (Int×Int×Nat)}(h:b1F l [] ts)(n:Int):n∈ts.map (·.1)↔a3c l n:=by
 have key:∀n,n∈ts.map (·.1)↔(n,(1:Int))∈prs ts:=fun n=>by
  constructor
  ·intro hm
   obtain⟨t,ht,rfl⟩:=List.mem_map.1 hm
   have hp:(t.1,t.2.1)∈prs ts:=List.mem_map.2 ⟨t,ht,rfl⟩
   rw[(h.one _ _ hp).1]at hp
   exact hp
  ·intro hm
   obtain⟨t,ht,e⟩:=List.mem_map.1 hm
   simp only[Prod.mk.injEq]at e
   exact List.mem_map.2 ⟨t,ht,e.1⟩
 rw[key]
 constructor
 ·exact fun hm=>(h.one _ _ hm).2
 ·intro hr
  induction hr with
  |base hb=>
   rcases h.bas _ hb with h1|h1
   ·exact h1
   ·cases h1
  |step hr hf hb hn hs ih=>
   obtain⟨i',hi'⟩:=Option.isSome_iff_exists.1 hs
   rcases h.nxt _ _ _ _ i' ih hf hb hn hi' with h1|h1
   ·exact h1
   ·cases h1
theorem b1F.skip{l:List I7}{todo:List Int}{ts:List (Int×Int×Nat)}{i:Nat}{b:I7}(h:b1F l (todo++[(i:Int)]) ts)(hb:l[i]? =some b)(hf:s8 l b.at'=some i)(hseen:(b.at',(1:Int))∈prs ts):b1F l todo ts:=by
 have back:∀n i',s8 l n=some i'→(i':Int)∈todo++[(i:Int)]→(n,(1:Int))∈prs ts∨(i':Int)∈todo:=fun n i' hn hm=>by
  rcases List.mem_append.1 hm with hm|hm
  ·exact .inr hm
  ·have:i'=i:=by rw[List.mem_singleton]at hm;omega
   subst this
   obtain⟨b',hb',e⟩:=Q9 hn
   rw[hb]at hb';cases hb'
   rw[←e];exact .inl hseen
 refine⟨h.one,fun t ht=>h.num t (List.mem_append_left _ ht),fun a i1 b1 n i' h1 h2 h3 h4 h5=> ?_,fun b0 h0=> ?_⟩
 ·rcases h.nxt a i1 b1 n i' h1 h2 h3 h4 h5 with g|g
  ·exact .inl g
  ·exact back n i' h5 g
 ·rcases h.bas b0 h0 with g|g
  ·exact .inl g
  ·have h00:s8 l b0.at'=some 0:=by
    cases l with
    |nil=>cases h0
    |cons c l=>simp at h0;subst h0;rw[a0Y,if_pos rfl]
   exact back _ 0 h00 g
theorem b1F.take{l:List I7}{todo:List Int}{ts ts':List (Int×Int×Nat)}{i:Nat}{b:I7}(h:b1F l (todo++[(i:Int)]) ts)(hb:l[i]? =some b)(hf:s8 l b.at'=some i)(hr:a3c l b.at')(hp:∀n x,(n,x)∈prs ts'↔(n=b.at'∧x=1)∨(n≠b.at'∧(n,x)∈prs ts)):b1F l (todo++R7 l b.next) ts':=by
 have b2H:∀n,(n,(1:Int))∈prs ts→(n,(1:Int))∈prs ts':=fun n hn=>by
  rw[hp]
  by_cases e:n=b.at'
  ·exact .inl ⟨e,rfl⟩
  ·exact .inr ⟨e,hn⟩
 have back:∀n i',s8 l n=some i'→(i':Int)∈todo++[(i:Int)]→(n,(1:Int))∈prs ts'∨(i':Int)∈todo++R7 l b.next:=fun n i' hn hm=>by
  rcases List.mem_append.1 hm with hm|hm
  ·exact .inr (List.mem_append_left _ hm)
  ·have:i'=i:=by rw[List.mem_singleton]at hm;omega
   subst this
   obtain⟨b',hb',e⟩:=Q9 hn
   rw[hb]at hb';cases hb'
   exact .inl ((hp _ _).2 (.inl ⟨e.symm,rfl⟩))
 refine⟨fun n x hn=> ?_,fun t ht=> ?_,fun a i1 b1 n i' h1 h2 h3 h4 h5=> ?_,fun b0 h0=> ?_⟩
 ·rcases(hp n x).1 hn with ⟨rfl,rfl⟩|⟨_,hn⟩
  ·exact⟨rfl,hr⟩
  ·exact h.one n x hn
 ·rcases List.mem_append.1 ht with ht|ht
  ·exact h.num t (List.mem_append_left _ ht)
  ·unfold R7 at ht
   obtain⟨j,hj,rfl⟩:=List.mem_map.1 ht
   obtain⟨n,hn,hfn⟩:=List.mem_filterMap.1 hj
   obtain⟨c,hc,e⟩:=Q9 hfn
   subst e
   exact⟨j,c,rfl,hc,hfn, .step hr hf hb hn (by rw[hfn];rfl)⟩
 ·rcases(hp a 1).1 h1 with ⟨rfl,_⟩|⟨_,h1⟩
  ·rw[hf]at h2;cases h2
   rw[hb]at h3;cases h3
   exact .inr (List.mem_append_right _ (List.mem_map.2 ⟨i',List.mem_filterMap.2 ⟨n,h4,h5⟩,rfl⟩))
  ·rcases h.nxt a i1 b1 n i' h1 h2 h3 h4 h5 with g|g
   ·exact .inl (b2H n g)
   ·exact back n i' h5 g
 ·rcases h.bas b0 h0 with g|g
  ·exact .inl (b2H _ g)
  ·have h00:s8 l b0.at'=some 0:=by
    cases l with
    |nil=>cases h0
    |cons c l=>simp at h0;subst h0;rw[a0Y,if_pos rfl]
   exact back _ 0 h00 g
end
section
set_option linter.unusedSectionVars false
def a1X(ts:List (Int×Int×Nat))(a:Int):Bool:=decide (a ∉ ts.map (·.1))
theorem b4I{ts:List (Int×Int×Nat)}{n:Int}:n∈ts.map (·.1)↔ ∃x,(n,x)∈prs ts:=by
 constructor
 ·intro h
  obtain⟨t,ht,rfl⟩:=List.mem_map.1 h
  exact⟨t.2.1,List.mem_map.2 ⟨t,ht,rfl⟩⟩
 ·rintro⟨x,h⟩
  obtain⟨t,ht,e⟩:=List.mem_map.1 h
  simp only[Prod.mk.injEq]at e
  exact List.mem_map.2 ⟨t,ht,e.1⟩
section
variable{E:d6}{w0:i7}
theorem c6r{l:List I7}(hl:l.length<2^37)(hW:wgt (fun _=>true) l<2^37)(hnx:∀b∈l,b.next.length<2^37){k k2:Nat}{ts ts2:List (Int×Int×Nat)}(ha:AtM l ts 0){Q:D→b5→Prop}{S0 S:b5}(hm:J2 S k ts)(hm2:J2 S k2 ts2)(hk0:S0 k=none)(hk20:S0 k2=none)(hkk:k≠k2){x6:D}{todo:List Int}(ht:Sl S0 [k,k2] x6 todo S)(htl:todo.length≤1)(hle:S0.le S)(hI:b1F l todo ts2)
  (hend:∀ts2 S',J2 S' k2 ts2→(∀n,n∈ts2.map (·.1)↔a3c l n)→S0.le S'→M8 E w0 Q (.mp k2) S'):
  d5 Try.prog E w0 (.loop P6) (g8 79 [0,3,5,6] [A0 l, .mp k, .mp k2,x6]) S (R3 E w0 Q):=by
 refine a5V (I:=fun n x0 x3 x5 x6 T=>x0=A0 l∧x3= .mp k∧x5= .mp k2∧n<2^38∧∃todo ts2,n=todo.length+wgt (a1X ts2) l∧Sl S0 [k,k2] x6 todo T∧J2 T k ts∧J2 T k2 ts2∧S0.le T∧b1F l todo ts2) ?_ (n:=todo.length+wgt (a1X ts2) l)
  ⟨rfl,rfl,rfl,by have:=b8P (p:=fun _=>true) (p':=a1X ts2) (fun _ _=>rfl) l;omega,todo,ts2,rfl,ht,hm,hm2,hle,hI⟩
 rintro n _ _ _ x6 T ⟨rfl,rfl,rfl,hn38,todo,ts2,hn,ht,hm,hm2,hle,hI⟩
 unfold Z9
 rw[ht.len,oD,b0O,oD,cdI]
 refine⟨fun hgt=> ?_,fun hng=> ?_⟩
 case refine_2=>
  have:todo=[]:=List.length_eq_zero_iff.1 (by omega)
  subst this
  exact hend ts2 T hm2 hI.done hle
 obtain⟨td,t,rfl⟩:∃td t,todo=td++[t]:=by
  have hne:todo≠[]:=fun e=>by rw[e]at hgt;simp at hgt
  exact⟨_,_,(List.dropLast_concat_getLast hne).symm⟩
 obtain⟨i,b,rfl,hb,hf,hr⟩:=hI.num t (by simp)
 have hbm:=List.mem_of_getElem? hb
 have tln:(td++[(i:Int)]).length=td.length+1:=by simp
 have hlen:(((td++[(i:Int)]).length:Nat):Int) - 1=(td.length:Int):=by simp
 have hwr:IntKind.i64.wrap ((((td++[(i:Int)]).length:Nat):Int) - 1)=(td.length:Int):=by
  rw[g9 (by rw[tln];omega) (by rw[tln];omega),hlen]
 obtain⟨p,p1,p2⟩:=ht.rd.2 td.length (i:Int) (by simp)
 rw[oD,a7o,oD,hwr,p1,oD,p2,oD,L0 hb,oD,laE,if_pos ⟨by decide,by simp[F7]⟩,oD]
 intro ka a na
 refine(I5.new (sz:=3) (c:=[.int .i64 0, .int .i64 0, .nilSlc])).st (ds:=F7 b) (clA _) ⟨rfl,by decide,by simp[F7]⟩ fun c=> ?_
 rw[b5.set_set,show n8 [D.int .i64 0, .int .i64 0, .nilSlc] 0 (F7 b)=F7 b from rfl]
 have ca:I5 (T.set ka ⟨3,[F7 b],c⟩) ka 3 (F7 b):=I5.new
 have l1:S0.le (T.set ka ⟨3,[F7 b],c⟩):=b5.le_trans hle (b5.le_new na)
 have nk:k≠ka:=fun e=>hm.there (by rw[e];exact na)
 have nk2:k2≠ka:=fun e=>hm2.there (by rw[e];exact na)
 have hm:=hm.of (S':=T.set ka ⟨3,[F7 b],c⟩) (b5.set_ne _ _ _ nk)
 have hm2:=hm2.of (S':=T.set ka ⟨3,[F7 b],c⟩) (b5.set_ne _ _ _ nk2)
 have hka0:S0 ka=none:=b5.none_of hle na
 have ht:=ht.of (T':=T.set ka ⟨3,[F7 b],c⟩) fun j hj=>b5.set_ne _ _ _ fun e=>ht.ob_some j hj (by rw[e];exact na)
 generalize (T.set ka ⟨3,[F7 b],c⟩)=T1 at ca l1 hm hm2 ht
 obtain⟨d',d1,d2,d3⟩:=c4a ht (n:=td.length) (by simp)
 rw[List.take_left' rfl]at d3
 have q0:c9 T1 (.ptr ka 0)=some (.int .i64 b.at'):=ca.ld 0
 rw[tln]at hn
 rw[oD,a7o,oD,hwr,d1,oD,ofP,oD,q0,oD]
 rcases hm2.lookV b.at' false with ⟨v,hv,h1⟩|⟨hv,h1⟩
 ·have hv1:=(hI.one _ _ hv).1
  subst hv1
  rw[h1]
  simp only[Bool.false_eq_true,if_false,oD,b0O]
  rw[show decide ((1:Int)>0)=true from rfl,cdT]
  exact⟨n - 1,by omega,by trivial,by trivial,by trivial,by omega,td,ts2,by omega,d3,hm,hm2,l1,hI.skip hb hf hv⟩
 ·rw[h1]
  simp only[Bool.false_eq_true,if_false,oD,b0O]
  rw[show decide ((0:Int)>0)=false from rfl,cdF]
  simp only[ofP,Nat.zero_add,oD,q0]
  refine hm2.putV fun ts3 T3 hp hm3 hs3=> ?_
  have ca3:I5 T3 ka 3 (F7 b):=ca.of (hs3 ka (Ne.symm nk2))
  have q2:c9 T3 (.ptr ka 2)=some (iD b.next):=ca3.ld 2
  have l3:S0.le T3:=fun j o hj=>by rw[hs3 j (fun e=>by rw[e,hk20]at hj;cases hj)];exact l1 _ _ hj
  have hsl:Sl S0 [k,k2] d' td T3:=d3.of fun j hj=>hs3 j fun e=>by have:=(d3.ob_none j hj).2;rw[e]at this;simp at this
  simp only[ofP,Nat.zero_add,oD,q2,a3T]
  have hnl:=hnx b hbm
  refine c6d ha (by omega) (by omega) (hm.of (hs3 k hkk)) hm3.there hsl l3 fun d2 T4 hs4 l4 e4 e42=> ?_
  have hun:a1X ts2 b.at'=true:=by
   unfold a1X
   rw[decide_eq_true_eq,b4I]
   rintro⟨x,hx⟩
   exact hv x hx
  have hseen:a1X ts3 b.at'=false:=by
   unfold a1X
   rw[decide_eq_false_iff_not,Classical.not_not,b4I]
   exact⟨1,(hp _ _).2 (.inl ⟨rfl,rfl⟩)⟩
  have hmono:∀a,a1X ts3 a=true→a1X ts2 a=true:=fun a h=>by
   unfold a1X at h ⊢
   rw[decide_eq_true_eq,b4I]at h ⊢
   rintro⟨x,hx⟩
   by_cases e:a=b.at'
   ·exact h ⟨1,(hp _ _).2 (.inl ⟨e,rfl⟩)⟩
   ·exact h ⟨x,(hp _ _).2 (.inr ⟨e,hx⟩)⟩
  have hd:=b6E hmono hun hseen hbm
  have hnm:=b2W l b.next
  refine⟨(td++R7 l b.next).length+wgt (a1X ts3) l,by rw[List.length_append];omega,rfl,rfl,rfl,by rw[List.length_append];omega,td++R7 l b.next,ts3,rfl,hs4,(hm.of (hs3 k hkk)).of e4,hm3.of e42,l4,hI.take hb hf hr hp⟩
end
end
end Go.Proofs.Ytdkidgkiplcggaa.d
end
