/- A part of the proof of ImageWrites. -/
import Derived.Test.YtchnpgddpaonhaaGreatWah
import Derived.ChangeSlices
import Derived.Carry
set_option linter.unusedVariables false
set_option linter.unusedSimpArgs false
set_option maxRecDepth 100000
section
namespace Go.Am
open Go.ChangeShapes Go.WideShapes Go.ChangeAt Go.RowKit
def a6t:Value→AV
 | .slice (some a) len cap=>if len≤cap∧(cap=0∨a.spot=none) then .slc (.old a.block) a.off len cap true 1 else .opq (.slice (some a) len cap)
 | .pointer (some a)=>if a.spot=none then .ptr (.old a.block) a.off else .opq (.pointer (some a))
 |v=>c2P v
def d6b:Value→AV
 | .agg cs=> .agg (cs.toList.map a6t)
 |v=>a6t v
theorem d3r(ρ:B7)(v:Value):rel ρ (a6t v) v:=by
 unfold a6t
 split
 ·rename_i a len cap
  split
  ·rename_i h
   simp only[rel,Q3,c3X]
   refine⟨a,cap,rfl,h.1,Nat.le_refl _,fun _=>rfl, ?_,trivial⟩
   rcases h.2 with e|e
   ·exact .inl e
   ·right
    refine⟨a.block,0,rfl, ?_⟩
    obtain⟨b,o,s⟩:=a
    simp only at e
    subst e
    simp
  ·simp only[rel]
 ·rename_i a
  split
  ·rename_i e
   simp only[rel,Q3]
   refine⟨a.block,0,rfl, ?_⟩
   obtain⟨b,o,s⟩:=a
   simp only at e
   subst e
   simp
  ·simp only[rel]
 ·exact b9U _
theorem c4b(ρ:B7):∀l:List Value,w5 ρ (l.map a6t) l
 | []=>u9.2 rfl
 |v::l=>r7.2 ⟨d3r ρ v,c4b ρ l⟩
theorem d9d(ρ:B7)(v:Value):rel ρ (d6b v) v:=by
 unfold d6b
 split
 ·simp only[rel]
  exact⟨_,rfl,c4b ρ _⟩
 ·exact d3r ρ _
theorem d1h(ρ:B7):∀l:List Value,w5 ρ (l.map d6b) l
 | []=>u9.2 rfl
 |v::l=>r7.2 ⟨d9d ρ v,d1h ρ l⟩
def a4T(W:World):j6:=fun b=>match W.heap[b]? with
 |some (.cells arr _ _)=>some (arr.toList.map a6t)
 |_=>none
theorem d8J(W:World)(b:Nat)(cs:List AV)(h:a4T W b=some cs):b<W.heap.size∧∃arr el fr,W.heap[b]? =some (.cells arr el fr)∧w5 (fun _=>none) cs arr.toList:=by
 unfold a4T at h
 split at h
 ·rename_i arr el fr e
  cases h
  exact⟨(Array.getElem?_eq_some_iff.1 e).1,arr,el,fr,e,c4b _ _⟩
 ·cases h
theorem d7H{P:Program}{f:FuncId}{W:World}{vargs:Array Value}(h:FnW P (a4T W) W f (vargs.toList.map d6b) AHeap.empty fun v _=>v= .bool true):
  Calls P f vargs W fun e w=>e= .returned (.bool true)∧c6f W w:=
 d3g h (d8J W) (d1h _ _)
theorem c6f.same{W W':World}(h:c6f W W'){p:MemPlace}(hp:p.block<W.heap.size):W.sameAt W' p:=by
 cases p with
 |cell b off=>
  show W'.cell? ⟨b,off,none⟩=W.cell? ⟨b,off,none⟩
  unfold World.cell?
  rw[h.2.2 b hp]
 |map b=>
  show W'.heap[b]? =W.heap[b]?
  exact h.2.2 b hp
theorem b8M{H:Type}{enc:TypeId×Value→H}{P:Program}(hl:laidOutB P=true){W W':World}{sp:Nat→Bool}:∀ {ts:List TypeId} {vs:List Value} {ds:List (DataW H)} {ps:List MemPlace},(∀t∈ts,P.readableRec t=true∧t<P.types.size)→
  DataW.TrodAll enc P W 0 (fun _=>true) true ts vs ds ps→(∀p∈ps,W.sameAt W' p)→(∀p∈ps,sp p.block=true)→DataW.TrodAll enc P W' 0 sp true ts vs ds ps
 | [],[],[],ps,_,h,_,_=>h
 |t::ts,v::vs,d::ds,ps,ht,h,hs,hp=>by
  obtain⟨p,q,h1,h2,rfl⟩:=h
  refine⟨p,q,WideElems.Trod_stays hl (ht t List.mem_cons_self).1 (ht t List.mem_cons_self).2 h1 (fun x hx=>hs x (List.mem_append_left _ hx)) (fun x hx=>hp x (List.mem_append_left _ hx)), ?_,rfl⟩
  exact b8M hl (fun t ht'=>ht t (List.mem_cons_of_mem _ ht')) h2 (fun x hx=>hs x (List.mem_append_right _ hx)) (fun x hx=>hp x (List.mem_append_right _ hx))
theorem d3w{H:Type}{enc:TypeId×Value→H}{P:Program}{f:Func}{s:ChangeSpec}{apart fresh handsOn again:Bool}{W W':World}{args:Array Value}{ds gs:List (DataW H)}{before:List MemPlace}{b:TypeId}
  (hW:DataW.Whole enc P f.params.toList s.vars apart W args.toList ds gs before) (hvars:s.vars=[]) (hl:laidOutB P=true) (hts:∀t∈f.params.toList,P.readableRec t=true∧t<P.types.size)
  (hb:P.underlying b=some .bool) (hrt:f.resultTypes= #[b])
  (hres:(s.fn H ds).results=[.lit (.bool true)]) (hargs:(s.fn H ds).args=ds) (hvs:(s.fn H ds).vars=[]) (hk:c6f W W'):
  s.post enc P f apart fresh handsOn again W args (.bool true) W':=by
 have hW':=hW
 obtain⟨p,q,hA,hV,rfl,_,_⟩:=hW
 rw[hvars]at hV
 obtain⟨rfl,rfl⟩:=trodVars_none hV
 have hlt:∀x∈p,x.block<W.heap.size:=fun x hx=>hW'.lt x (by simpa using hx)
 refine d3b (pa:=p) (pv:=[]) hW' ?_ ?_ ?_ rfl hk ?_
 ·intro b0 sp hd
  rw[List.append_nil,hres,hrt]
  exact trodAll_cons_mk (shut_bool hb _) trodAll_mk0
 ·intro sp hsp
  rw[List.append_nil,hargs]
  exact b8M hl hts hA (fun x hx=>hk.same (hlt x hx)) (fun x hx=>hsp x (by simpa using hx))
 ·intro sp _
  rw[hvars,List.append_nil,hvs]
  rfl
 ·intro j t r h1 h2
  rw[hrt]at h1 h2
  match j,h1,h2 with
  |0,h1,h2=>
   simp[Value.resultList]at h1 h2
   subst h1 h2
   exact okWide_bool_mk hb _
theorem a7A{w:World}{a:Addr}{v:Value}(h:w.cell? a=some v):a.spot=none∧∃arr el fr,w.heap[a.block]? =some (.cells arr el fr)∧arr[a.off]? =some v:=by
 unfold World.cell? at h
 split at h
 ·rename_i c el fr hb
  split at h
  ·cases h
  ·rename_i hns
   exact⟨by cases hs:a.spot with
    |none=>rfl
    |some x=>rw[hs]at hns;exact(hns rfl).elim,c,el,fr,hb,h⟩
 ·cases h
end Go.Am
end
