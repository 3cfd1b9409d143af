/-
  BlocksCutsSaid: part Pae of its proof.
-/
import Derived.Test.YtdkidgkiplcggaaPad
set_option linter.unusedVariables false
set_option linter.unusedSimpArgs false
set_option maxRecDepth 100000
section
namespace Go.Am
section
section
variable{E:g8}{w0:World}{H:AHeap}{w:World}{ρ:u5}{P:Program}
theorem K6.of_turns{H':AHeap}{w':World}{a:AV}{v:Value}{r:Result Value}(h:r= .ok v w')(hr:B6 E w0 H' w' ρ)(hn:H'.next=H.next)(ha:rel ρ a v):
  K6 E w0 H ρ a H' r:=⟨v,w',ρ,h,Ext.refl _,fun _ _=>rfl,ha,hr,by omega⟩
theorem a7c{o:Id}{i:Nat}{vs:List AV}{H':AHeap}(h:z8 H o i vs=some H'):H'.next=H.next:=by
 unfold z8 at h
 split at h
 ·cases h;rfl
 ·split at h
  ·cases h
  ·split at h
   ·split at h
    ·cases h;simp
    ·cases h
   ·cases h
theorem c2G(R:B6 E w0 H w ρ){dT ty:TypeId}{tys:Array TypeId}(a0:tys[0]? =some dT){d x a:AV}{vd vx:Value}{H':AHeap}(h:a8h P E H dT d x=some (a,H'))(hd:rel ρ d vd)(hx:rel ρ x vx):
  K6 E w0 H ρ a H' ((Builtin.copy_ tys ty #[vd,vx]).run P w):=by
 unfold a8h at h
 simp only[Option.bind_eq_bind,Option.bind_eq_some_iff]at h
 obtain⟨e,he,size,hs,k,hk,h⟩:=h
 have b0:(#[vd,vx]:Array Value)[0]? =some vd:=rfl
 have b1:(#[vd,vx]:Array Value)[1]? =some vx:=rfl
 have hl:=b9h (P:=P) hk hx w
 split at h
 ·cases h
  simp only[rel]at hd;subst hd
  refine K6.same R (v:=goInt 0) ?_ (by simp only[rel,goInt])
  have hfc:(Builtin.firstCells size 0 vx).run P w= .ok #[] w:=by
   have:U5 E H size 0 x=some []∨True:= .inr trivial
   unfold a1J at hk
   split at hk
   ·simp only[rel]at hx;subst hx;rfl
   ·simp only[rel]at hx;obtain⟨ad,c,rfl,_⟩:=hx
    simp[Builtin.firstCells,loadCells,loadCellsFrom]
   ·simp only[rel]at hx;subst hx
    simp only[Builtin.firstCells,Sem.run_pure]
    congr 1
    apply Array.ext'
    simp
   ·cases hk
  simp only[Builtin.copy_,a0,b0,b1,Sem.run_bind,b7 (a1z he),Result.andThen_ok,hl,A6 hs,Nat.min_def,Nat.le_zero_eq]
  by_cases h0:k=0
  ·subst h0;rw[if_pos rfl,hfc];rfl
  ·rw[if_neg h0,hfc];rfl
 ·rename_i o i len cap ex sz
  simp only[Option.bind_eq_some_iff]at h
  obtain⟨news,hn,H1,hst,h⟩:=h
  cases h
  simp only[rel]at hd
  obtain⟨ad,c,rfl,g1,g2,g3,g4,g5⟩:=hd
  obtain⟨nv,r1,r2⟩:=a7H (P:=P) R hk (Nat.min_le_left _ _) hn hx
  have hrun:∀w',(storeCells ad nv).run P w= .ok () w'→(Builtin.copy_ tys ty #[.slice (some ad) len c,vx]).run P w= .ok (.int .i64 (min k len:Nat)) w':=by
   intro w' hw'
   simp only[Builtin.copy_,a0,b0,b1,Sem.run_bind,b7 (a1z he),Result.andThen_ok,hl,A6 hs]
   rw[show k.min len=min k len from rfl,r1 w rfl]
   simp only[Result.andThen_ok,hw',Sem.run_pure,goInt]
  rcases R.stores (P:=P) hst r2 with ⟨rfl,rfl,rfl⟩|⟨hnn,b,d,w',hb,hw',R'⟩
  ·exact K6.same R (hrun w rfl) (by simp only[rel])
  ·have hne:c≠0:=by
    rintro rfl
    have hlen0:len=0:=by omega
    subst hlen0
    refine hnn ?_
    unfold U5 at hn
    split at hn
    ·cases hn;rfl
    ·have:(min k 0)*size=0:=by simp
     rw[this]at hn
     unfold F4 at hn
     rw[if_pos rfl]at hn
     cases hn;rfl
    ·cases hn;simp
    ·cases hn
   obtain⟨b',d',hb',rfl⟩:=g4.resolve_left hne
   rw[hb]at hb';cases hb'
   exact K6.of_turns (hrun w' hw') R' (a7c hst) (by simp only[rel])
 ·cases h
theorem c0U(R:B6 E w0 H w ρ){t:TypeId}{o:Id}{i:Nat}{x:AV}{va vx:Value}{H':AHeap}(hs:A4 P t=some x.cells.length)(h:z8 H o i x.cells=some H')
  (ha:rel ρ (.ptr o i) va) (hx:rel ρ x vx):c4B E w0 ρ H' ((Instr.storeAt t va vx).run P w)∧H'.next=H.next:=by
 refine⟨?_,a7c h⟩
 have hc:=a0R hx
 have hl:=u7 hc
 simp only[Array.length_toList]at hl
 simp only[rel]at ha
 obtain⟨b,d,hb,rfl⟩:=ha
 have hrun:∀w',(storeCells ⟨b,d+i,none⟩ vx.cells.toList).run P w= .ok () w'→(Instr.storeAt t (.pointer (some ⟨b,d+i,none⟩)) vx).run P w= .ok () w':=by
  intro w' hw'
  simp only[Instr.storeAt,Instr.sureAddr,storeVar,Sem.run_bind,Sem.run_pure,Result.andThen_ok,A6 hs]
  rw[if_neg (by omega)]
  exact hw'
 rcases R.stores (P:=P) h hc with ⟨h1,h2,rfl⟩|⟨_,b',d',w',hb',hw',R'⟩
 ·exact⟨w,hrun w (by rw[h2];rfl),R⟩
 ·rw[hb]at hb';cases hb'
  exact⟨w',hrun w' hw',R'⟩
def b1s(ρ:u5):X4→Go.Place→Prop
 | .val a, .val v=>rel ρ a v
 | .var o i, .var ad=>∃b d,E4 ρ o=some (b,d)∧ad=⟨b,d+i,none⟩
 |_,_=>False
theorem a3o(R:B6 E w0 H w ρ){t:TypeId}{x:X4}{p:Go.Place}{a:AV}(h:x.get P E H t=some a)(hx:b1s ρ x p):∃v,(p.get t).run P w= .ok v w∧rel ρ a v:=by
 cases x with
 |val a'=>
  cases p with
  |val v=>simp only[X4.get]at h;cases h;exact⟨v,rfl,hx⟩
  |var ad=>exact hx.elim
 |var o i=>
  cases p with
  |val v=>exact hx.elim
  |var ad=>
   obtain⟨b,d,hb,rfl⟩:=hx
   simp only[X4.get]at h
   obtain⟨b',d',v,h1,h2,h3⟩:=a3C (P:=P) R h
   rw[hb]at h1;cases h1
   exact⟨v,h2,h3⟩
theorem a1N(R:B6 E w0 H w ρ):∀ {path:List FieldStep} {t t':TypeId} {x x':X4} {p:Go.Place},P3 P E H path t x=some (t',x')→b1s ρ x p→
  ∃p',(Go.follow path t p).run P w= .ok (t',p') w∧b1s ρ x' p'
 | [],t,t',x,x',p,h,hx=>by
  simp only[P3]at h;cases h
  exact⟨p,rfl,hx⟩
 |s::rest,t,t',x,x',p,h,hx=>by
  simp only[P3,Option.bind_eq_bind,Option.bind_eq_some_iff]at h
  obtain⟨fd,hfd,h⟩:=h
  obtain⟨fields,hu,hf⟩:=a6L hfd
  split at h
  ·rename_i hc
   obtain⟨n,hn⟩:=Option.isSome_iff_exists.1 hc.1
   have hn0:n≠0:=by rintro rfl;exact hc.2 hn
   split at h
   ·rename_i hder
    simp only[Option.bind_eq_some_iff]at h
    obtain⟨a,ha,h⟩:=h
    split at h
    ·rename_i o i
     obtain⟨v,h1,h2⟩:=a3o (P:=P) R ha hx
     simp only[rel]at h2
     obtain⟨b,d,hb,rfl⟩:=h2
     obtain⟨p',g1,g2⟩:=a1N R (p:= .var ⟨b,d+i+fd.offset,none⟩) h ⟨b,d,hb,by rw[Nat.add_assoc]⟩
     refine⟨p', ?_,g2⟩
     simp only[Go.follow,Sem.run_bind,b7 hu,Result.andThen_ok,hf,hder,if_true,h1,asAddr,Sem.run_pure,a3M hn hn0,g1]
    ·cases h
   ·rename_i hder
    split at h
    ·rename_i o i
     cases p with
     |val v=>exact hx.elim
     |var ad=>
      obtain⟨b,d,hb,rfl⟩:=hx
      obtain⟨p',g1,g2⟩:=a1N R (p:= .var ⟨b,d+i+fd.offset,none⟩) h ⟨b,d,hb,by rw[Nat.add_assoc]⟩
      refine⟨p', ?_,g2⟩
      simp only[Go.follow,Sem.run_bind,b7 hu,Result.andThen_ok,hf,hder,Bool.false_eq_true,if_false,a3M hn hn0,g1]
    ·rename_i cs
     simp only[Option.bind_eq_some_iff]at h
     obtain⟨y,hy,h⟩:=h
     cases p with
     |var ad=>exact hx.elim
     |val v=>
      simp only[b1s,rel]at hx
      obtain⟨xs,rfl,hr⟩:=hx
      obtain⟨v,h1,h2⟩:=a2f hr hy w
      obtain⟨p',g1,g2⟩:=a1N R (p:= .val v) h h2
      refine⟨p', ?_,g2⟩
      simp only[Go.follow,Sem.run_bind,b7 hu,Result.andThen_ok,hf,hder,Bool.false_eq_true,if_false,h1,g1]
    ·cases h
  ·cases h
theorem b7R(R:B6 E w0 H w ρ){t:TypeId}{a r:AV}{v:Value}{name:String}{f:FuncId}{fuel:Nat}(h:Z3 P E H t a name=some (f,r))(hv:rel ρ a v):
  ∃vr,(Go.method (fuel+1) t v name).run P w= .ok (f,vr) w∧rel ρ r vr:=by
 unfold Z3 at h
 simp only[Option.bind_eq_bind,Option.bind_eq_some_iff]at h
 obtain⟨info,hi,m,hm,⟨xt,x⟩,hfo,⟨g,pr⟩,hfn,h⟩:=h
 obtain⟨p,h1,h2⟩:=a1N (P:=P) R hfo (p:= .val v) hv
 have head:∀(q:FuncId×Value),(do pure (g, ←Go.receiverAt xt p pr (if m.path.isEmpty then some ((name.splitOn ".").getLastD name) else none)):Sem (FuncId×Value)).run P w= .ok q w→
   (Go.method (fuel+1) t v name).run P w= .ok q w:=by
  intro q hq
  simp only[Go.method,Sem.run_bind,u9 hi,Result.andThen_ok,hm,h1,hfn]
  simpa only[Sem.run_bind]using hq
 simp only at h
 cases hu:P.underlying xt with
 |none=>rw[hu]at h;cases h
 |some d=>
  rw[hu]at h
  by_cases hp:∃e,d= .pointer e
  ·obtain⟨e,rfl⟩:=hp
   cases pr with
   |false=>cases h
   |true=>
    simp only[Option.map_eq_some_iff,Prod.mk.injEq]at h
    obtain⟨y,hy,rfl,rfl⟩:=h
    obtain⟨vr,g1,g2⟩:=a3o (P:=P) R hy h2
    refine⟨vr,head _ ?_,g2⟩
    cases p<;>simp only[Go.receiverAt,Sem.run_bind,b7 hu,Result.andThen_ok,g1,Sem.run_pure]
  ·cases pr with
   |true=>
    cases x with
    |val a'=>exfalso;cases d<;>first|exact hp ⟨_,rfl⟩|cases h
    |var o i=>
     cases p with
     |val v=>exact h2.elim
     |var ad=>
      obtain⟨b,d',hb,rfl⟩:=h2
      have he:some (g,AV.ptr o i)=some (f,r):=by cases d<;>first|exact h|exact(hp ⟨_,rfl⟩).elim
      cases he
      refine⟨.pointer (some ⟨b,d'+i,none⟩),head _ ?_,by simp only[rel];exact⟨b,d',hb,rfl⟩⟩
      simp only[Go.receiverAt,Sem.run_bind,b7 hu,Result.andThen_ok]
      cases d<;>first|rfl|exact(hp ⟨_,rfl⟩).elim
   |false=>
    have he:(x.get P E H xt).map (fun r=>(g,r))=some (f,r):=by cases d<;>first|exact h|exact(hp ⟨_,rfl⟩).elim
    simp only[Option.map_eq_some_iff,Prod.mk.injEq]at he
    obtain⟨y,hy,rfl,rfl⟩:=he
    obtain⟨vr,g1,g2⟩:=a3o (P:=P) R hy h2
    refine⟨vr,head _ ?_,g2⟩
    have:(Go.receiverAt xt p false (if m.path.isEmpty then some ((name.splitOn ".").getLastD name) else none)).run P w= .ok vr w:=by
     simp only[Go.receiverAt,Sem.run_bind,b7 hu,Result.andThen_ok]
     cases d<;>first|exact(hp ⟨_,rfl⟩).elim|(cases p<;>exact g1)
    simp only[Sem.run_bind,this,Result.andThen_ok,Sem.run_pure]
end
end
section
section
variable{E:g8}{w0:World}{H:AHeap}{w:World}{ρ:u5}{P:Program}
theorem c0d{f:FuncId}{args:Array Value}(h:a3L P f=true)(w:World):(callFunc f args).run P w= .ok (.enter f args) w:=by
 unfold a3L at h
 split at h
 ·rename_i fn hf
  simp only[Bool.and_eq_true,bne_iff_ne,ne_eq]at h
  obtain⟨c,hc⟩:=Option.isSome_iff_exists.1 h.1
  have h2:(fn.name=="runtime.NumGoroutine")=false:=by simpa using h.2
  simp only[callFunc,Sem.run_bind,run_program,Result.andThen_ok,hf,h2,Bool.false_eq_true,if_false,hc,Option.isNone_some,Sem.run_pure]
 ·cases h
theorem b1u{ρa:Operand→AV}{ρv:Operand→Value}(h:∀x,rel ρ (ρa x) (ρv x)):∀l:List Operand,m6 ρ (l.map ρa) (l.map ρv)
 | []=>m7.2 rfl
 |x::l=>j3.2 ⟨h x,b1u h l⟩
theorem b5o{ρa:Operand→AV}{ρv:Operand→Value}(h:∀x,rel ρ (ρa x) (ρv x)):∀l:List (Nat×Operand),c2W ρ (l.map fun p=>(p.1,ρa p.2)) (l.map fun p=>(p.1,ρv p.2))
 | []=>rfl
 |(_,x)::l=>⟨ρv x,_,rfl,h x,b5o h l⟩
theorem c4H{a b:AV}{l:List Value}(h:m6 ρ [a,b] l):∃x y,l=[x,y]∧rel ρ a x∧rel ρ b y:=by
 cases l with
 |nil=>exact(t7 h).elim
 |cons x l=>
  rw[j3]at h
  cases l with
  |nil=>exact(t7 h.2).elim
  |cons y l=>rw[j3,m7]at h;obtain⟨h1,h2,rfl⟩:=h;exact⟨x,y,rfl,h1,h2⟩
theorem b9S{a:AV}{l:List Value}(h:m6 ρ [a] l):∃x,l=[x]∧rel ρ a x:=by
 cases l with
 |nil=>exact(t7 h).elim
 |cons x l=>rw[j3,m7]at h;obtain⟨h1,rfl⟩:=h;exact⟨x,rfl,h1⟩
theorem c3w{t ty:TypeId}{x:AV}{vx:Value}{n:Nat}(h:b0D P t x=some n)(hx:rel ρ x vx)(w:World):(Builtin.len_ #[t] ty #[vx]).run P w= .ok (goInt n) w:=by
 have a0:(#[t]:Array TypeId)[0]? =some t:=rfl
 have b0:(#[vx]:Array Value)[0]? =some vx:=rfl
 unfold b0D at h
 split at h
 ·rename_i s hu;cases h;simp only[rel]at hx;subst hx
  simp only[Builtin.len_,a0,b0,Sem.run_bind,b7 hu,Result.andThen_ok,Sem.run_pure]
  congr 2
 ·rename_i hu;cases h;simp only[rel]at hx;subst hx
  simp only[Builtin.len_,a0,b0,Sem.run_bind,b7 hu,Result.andThen_ok,Sem.run_pure]
 ·rename_i hu;cases h;simp only[rel]at hx;obtain⟨a,c,rfl,_⟩:=hx
  simp only[Builtin.len_,a0,b0,Sem.run_bind,b7 hu,Result.andThen_ok,Sem.run_pure]
 ·rename_i hu;cases h
  simp only[Builtin.len_,a0,b0,Sem.run_bind,b7 hu,Result.andThen_ok,Sem.run_pure]
 ·cases h
theorem b7K(R:B6 E w0 H w ρ){t ty:TypeId}{x:AV}{vx:Value}{n:Nat}(h:a1P P H t x=some n)(hx:rel ρ x vx):(Builtin.len_ #[t] ty #[vx]).run P w= .ok (goInt n) w:=by
 have a0:(#[t]:Array TypeId)[0]? =some t:=rfl
 have b0:(#[vx]:Array Value)[0]? =some vx:=rfl
 unfold a1P at h
 split at h
 ·rename_i hu;cases h;simp only[rel]at hx;subst hx
  simp only[Builtin.len_,a0,b0,Sem.run_bind,b7 hu,Result.andThen_ok,Sem.run_pure]
  rfl
 ·rename_i k hu
  split at h
  ·rename_i es clock hk
   cases h
   obtain⟨l,mes,h1,h2,h3⟩:=R.mapOf hk
   simp only[rel]at hx
   obtain⟨l',hl',rfl⟩:=hx
   rw[h1]at hl';cases hl'
   have:=c1k h3
   simp only[Array.length_toList]at this
   simp only[Builtin.len_,a0,b0,Sem.run_bind,b7 hu,Result.andThen_ok,P6 h2,Sem.run_pure,this]
  ·cases h
 ·cases h
theorem c3s{t ty:TypeId}{x:AV}{vx:Value}{n:Nat}(h:b9w P t x=some n)(hx:rel ρ x vx)(w:World):(Builtin.cap_ #[t] ty #[vx]).run P w= .ok (goInt n) w:=by
 have a0:(#[t]:Array TypeId)[0]? =some t:=rfl
 have b0:(#[vx]:Array Value)[0]? =some vx:=rfl
 unfold b9w at h
 split at h
 ·rename_i hu;cases h;simp only[rel]at hx;subst hx
  simp only[Builtin.cap_,a0,b0,Sem.run_bind,b7 hu,Result.andThen_ok,Sem.run_pure]
 ·rename_i hu;cases h;simp only[rel]at hx;obtain⟨a,c,rfl,_,_,h3,_⟩:=hx
  obtain rfl:=h3 trivial
  simp only[Builtin.cap_,a0,b0,Sem.run_bind,b7 hu,Result.andThen_ok,Sem.run_pure]
 ·rename_i hu;cases h
  simp only[Builtin.cap_,a0,b0,Sem.run_bind,b7 hu,Result.andThen_ok,Sem.run_pure]
 ·cases h
theorem b2k(b:Bool):∀ {l:List AV} {vs:List Value} {x r:AV} {vx:Value},l.foldlM (fun x y=>match x,y with
   | .int k a, .int _ c=>some (.int k (if b then(if c>a then c else a) else(if c<a then c else a)))
   |_,_=>none) x=some r→rel ρ x vx→m6 ρ l vs→∀w:World,∃v,(vs.foldlM (if b then Builtin.max2 else Builtin.min2) vx).run P w= .ok v w∧rel ρ r v
 | [],vs,x,r,vx,h,hx,hr,w=>by
  rw[m7]at hr;subst hr
  simp at h;subst h
  exact⟨vx,rfl,hx⟩
 |y::l,[],_,_,_,_,_,hr,_=>(t7 hr).elim
 |y::l,vy::vs,x,r,vx,h,hx,hr,w=>by
  rw[j3]at hr
  simp only[List.foldlM_cons,Option.bind_eq_bind,Option.bind_eq_some_iff]at h
  obtain⟨z,hz,h⟩:=h
  split at hz
  ·rename_i k a k' c
   cases hz
   have hxx:=hx
   have hyy:=hr.1
   simp only[rel]at hxx hyy;subst hxx hyy
   obtain⟨v,h1,h2⟩:=b2k b (vx:= .int k (if b then(if c>a then c else a) else(if c<a then c else a))) h (by simp only[rel]) hr.2 w
   refine⟨v, ?_,h2⟩
   rw[List.foldlM_cons]
   cases b
   ·simp only[Bool.false_eq_true,if_false]at h1 ⊢
    simp only[Sem.run_bind,Builtin.min2,Sem.run_pure,Result.andThen_ok]
    exact h1
   ·simp only[if_true]at h1 ⊢
    simp only[Sem.run_bind,Builtin.max2,Sem.run_pure,Result.andThen_ok]
    exact h1
  ·cases hz
theorem a9I{b:Bool}{l:List AV}{r:AV}{vs:List Value}{ty:TypeId}{tys:Array TypeId}(h:a1W b l=some r)(hr:m6 ρ l vs)(w:World):
  ∃v,((if b then Builtin.max_ else Builtin.min_) tys ty ⟨vs⟩).run P w= .ok v w∧rel ρ r v:=by
 cases l with
 |nil=>simp[a1W]at h
 |cons x l=>
  cases vs with
  |nil=>exact(t7 hr).elim
  |cons v vs=>
   rw[j3]at hr
   simp only[a1W]at h
   obtain⟨u,h1,h2⟩:=b2k (P:=P) b h hr.1 hr.2 w
   refine⟨u, ?_,h2⟩
   cases b
   ·simpa only[Bool.false_eq_true,if_false,Builtin.min_]using h1
   ·simpa only[if_true,Builtin.max_]using h1
def r5(E:g8)(w0:World)(H:AHeap)(ρ:u5)(w:World)(r:W7)(run:Result Next):Prop:=
 match r with
 | .val a H'=>a1w ρ H H'→∃nx v w' ρ',run= .ok nx w'∧(nx= .value v∨nx= .skip∧v=undef)∧Ext ρ ρ'∧(∀k,¬(H.next≤k∧k<H'.next)→ρ' k=ρ k)∧rel ρ' a v∧B6 E w0 H' w' ρ'∧H.next≤H'.next
 | .call f args H'=>H'=H∧∃vargs,run= .ok (.enter f vargs) w∧m6 ρ args vargs.toList
theorem r5.of_gives{a:AV}{H':AHeap}{s:Sem Value}(h:a1w ρ H H'→K6 E w0 H ρ a H' (s.run P w)):r5 E w0 H ρ w (.val a H') ((do pure (Next.value (←s)):Sem Next).run P w):=by
 intro hf
 obtain⟨v,w',ρ',h1,h2,h3,h4,h5,h6⟩:=h hf
 exact⟨.value v,v,w',ρ',by simp only[Sem.run_bind,h1,Result.andThen_ok,Sem.run_pure], .inl rfl,h2,h3,h4,h5,h6⟩
theorem r5.of_sees(R:B6 E w0 H w ρ){a:AV}{s:Sem Value}(h:∃v,s.run P w= .ok v w∧rel ρ a v):r5 E w0 H ρ w (.val a H) ((do pure (Next.value (←s)):Sem Next).run P w):=by
 obtain⟨v,h1,h2⟩:=h
 exact r5.of_gives fun _=>K6.same R h1 h2
theorem r5.of_turns{H':AHeap}{s:Sem Unit}(h:c4B E w0 ρ H' (s.run P w))(hn:H'.next=H.next):r5 E w0 H ρ w (.val s8 H') ((do s;pure Next.skip:Sem Next).run P w):=by
 intro _
 obtain⟨w',h1,h2⟩:=h
 exact⟨.skip,undef,w',ρ,by simp only[Sem.run_bind,h1,Result.andThen_ok,Sem.run_pure], .inr ⟨rfl,rfl⟩,Ext.refl _,fun _ _=>rfl,a8H,h2,by omega⟩
theorem a6N{f:FuncId}{args:List AV}{vargs:Array Value}{r:W7}(h:J7 P H f args=some r)(hr:m6 ρ args vargs.toList):
  r5 E w0 H ρ w r ((callFunc f vargs).run P w):=by
 unfold J7 at h
 split at h
 ·rename_i hb
  cases h
  exact⟨rfl,vargs,c0d hb w,hr⟩
 ·cases h
theorem a4u(R:B6 E w0 H w ρ){t:TypeId}{a:AV}{v:Value}{name:String}{args:List AV}{vargs:Array Value}{r:W7}
  (h:((Z3 P E H t a name).bind fun(g,r)=>J7 P H g (r::args))=some r) (hv:rel ρ a v) (hr:m6 ρ args vargs.toList):
  r5 E w0 H ρ w r ((callMethod (.iface t v) name vargs).run P w):=by
 simp only[Option.bind_eq_some_iff]at h
 obtain⟨⟨g,rc⟩,hm,h⟩:=h
 obtain⟨k,hk⟩:∃k,P.types.size+Made.depth=k+1:=⟨P.types.size+Made.depth - 1,by
  have:0<Made.depth:=by decide
  omega⟩
 obtain⟨vr,h1,h2⟩:=b7R (P:=P) (fuel:=k) R hm hv
 have:(callMethod (.iface t v) name vargs).run P w=(callFunc g (#[vr]++vargs)).run P w:=by
  simp only[callMethod,Sem.run_bind,run_program,Result.andThen_ok]
  rw[hk,h1]
  rfl
 rw[this]
 exact a6N h (by simpa using j3.2 ⟨h2,hr⟩)
theorem c1X(R:B6 E w0 H w ρ){c:Call}{ty:TypeId}{ρa:Operand→AV}{ρv:Operand→Value}{r:W7}(h:Q8 P E H c ρa=some r)(hρ:∀x,rel ρ (ρa x) (ρv x)):
  r5 E w0 H ρ w r ((do let d←resolve ρv c ty;invoke d.target d.args:Sem Next).run P w):=by
 have hargs:m6 ρ (c.args.toList.map ρa) (c.args.map ρv).toList:=by
  rw[Array.toList_map];exact b1u hρ _
 unfold Q8 at h
 simp only at h
 split at h
 ·rename_i f hc
  split at h
  ·rename_i g first captured hf
   have hx:=hρ f
   rw[hf]at hx
   simp only[rel]at hx
   obtain⟨x,y,hxv,hx1,hx2⟩:=hx
   have:(do let d←resolve ρv c ty;invoke d.target d.args:Sem Next).run P w=(callFunc g (x++c.args.map ρv++y)).run P w:=by
    simp only[resolve,hc,hxv,Deferred.ofValue,Sem.run_bind,Sem.run_pure,Result.andThen_ok,invoke]
   rw[this]
   exact a6N h (by simpa using O6 hx1 (O6 hargs hx2))
  ·rename_i name first captured hf
   have hx:=hρ f
   rw[hf]at hx
   simp only[rel]at hx
   obtain⟨x,y,hxv,hx1,hx2⟩:=hx
   split at h
   ·rename_i t v rest hfl
    have hall:=O6 hx1 hargs
    rw[hfl]at hall
    generalize hl:x.toList++(c.args.map ρv).toList=l at hall
    cases l with
    |nil=>exact(t7 hall).elim
    |cons u l=>
     rw[j3]at hall
     obtain⟨hu,hrest⟩:=hall
     simp only[rel]at hu
     obtain⟨vv,rfl,hvv⟩:=hu
     have hl':x++c.args.map ρv=⟨.iface t vv::l⟩:=by
      apply Array.ext';simpa using hl
     have:(do let d←resolve ρv c ty;invoke d.target d.args:Sem Next).run P w=(callMethod (.iface t vv) name ⟨l⟩).run P w:=by
      simp only[resolve,hc,hxv,Deferred.ofValue,Sem.run_bind,Sem.run_pure,Result.andThen_ok,invoke,hl']
      have e1:(⟨Value.iface t vv::l⟩:Array Value)[0]? =some (.iface t vv):=rfl
      have e2:(⟨Value.iface t vv::l⟩:Array Value).extract 1 (⟨Value.iface t vv::l⟩:Array Value).size=⟨l⟩:=by
       apply Array.ext'
       rw[Array.toList_extract,List.extract_eq_take_drop]
       simp
      simp only[e1,e2]
     rw[this]
     exact a4u R h hvv hrest
   ·cases h
  ·rename_i t path g pointer first captured hf
   have hx:=hρ f
   rw[hf]at hx
   simp only[rel]at hx
   obtain⟨x,y,hxv,hx1,hx2⟩:=hx
   split at h
   ·rename_i x0 rest e hpl hfl hu
    split at h
    ·rename_i hptr
     have hall:=O6 hx1 hargs
     rw[hfl]at hall
     generalize hl:x.toList++(c.args.map ρv).toList=l at hall
     cases l with
     |nil=>exact(t7 hall).elim
     |cons u l=>
      rw[j3]at hall
      obtain⟨hu0,hrest⟩:=hall
      have hl':x++c.args.map ρv=⟨u::l⟩:=by
       apply Array.ext';simpa using hl
      have hpath:path.toList=[]:=hpl
      have:(do let d←resolve ρv c ty;invoke d.target d.args:Sem Next).run P w=(callFunc g (#[u]++⟨l⟩)).run P w:=by
       simp only[resolve,hc,hxv,Deferred.ofValue,Sem.run_bind,Sem.run_pure,Result.andThen_ok,invoke,hl']
       have e1:(⟨u::l⟩:Array Value)[0]? =some u:=rfl
       have e2:(⟨u::l⟩:Array Value).extract 1 (⟨u::l⟩:Array Value).size=⟨l⟩:=by
        apply Array.ext'
        rw[Array.toList_extract,List.extract_eq_take_drop]
        simp
       simp only[e1,e2,Sem.run_bind,receiverVia,hpath,follow,Sem.run_pure,Result.andThen_ok,receiverAt,b7 hu,hptr,Place.get]
      rw[this]
      exact a6N h (by simpa using j3.2 ⟨hu0,hrest⟩)
    ·cases h
   ·cases h
  ·cases h
 ·rename_i recv name hc
  split at h
  ·rename_i t v hv
   have hx:=hρ recv
   rw[hv]at hx
   simp only[rel]at hx
   obtain⟨vv,hvx,hvv⟩:=hx
   have:(do let d←resolve ρv c ty;invoke d.target d.args:Sem Next).run P w=(callMethod (.iface t vv) name (c.args.map ρv)).run P w:=by
    simp only[resolve,hc,hvx,Sem.run_bind,Sem.run_pure,Result.andThen_ok,invoke]
    have e1:(#[Value.iface t vv]++c.args.map ρv:Array Value)[0]? =some (.iface t vv):=by
     rw[Array.getElem?_append_left (show 0< #[Value.iface t vv].size from Nat.zero_lt_one)];rfl
    have e2:(#[Value.iface t vv]++c.args.map ρv:Array Value).extract 1 (#[Value.iface t vv]++c.args.map ρv:Array Value).size=c.args.map ρv:=by
     apply Array.ext'
     rw[Array.toList_extract,List.extract_eq_take_drop,Array.toList_append]
     simp
     rw[List.take_of_length_le (by simp)]
    simp only[e1,e2]
   rw[this]
   exact a4u R h hvv hargs
  ·cases h
 ·rename_i b hc
  have hrun:(do let d←resolve ρv c ty;invoke d.target d.args:Sem Next).run P w=(builtin b c.argTypes ty (c.args.map fun| .const _=>true|_=>false) (c.args.map ρv)).run P w:=by
   simp only[resolve,hc,Sem.run_bind,Sem.run_pure,Result.andThen_ok,invoke]
   rfl
  rw[hrun]
  generalize hav:c.args.map ρv=av at hargs
  generalize c.argTypes=tys at h ⊢
  generalize (c.args.map fun| .const _=>true|_=>false)=consts
  obtain⟨al⟩:=av
  obtain⟨tl⟩:=tys
  split at h
  ·rename_i s x sT xT hl ht
   simp only[Option.map_eq_some_iff]at h
   obtain⟨⟨a,H'⟩,ha,rfl⟩:=h
   rw[hl]at hargs
   obtain⟨vs,vx,rfl,h1,h2⟩:=c4H hargs
   simp only at ht;subst ht
   exact r5.of_gives fun hf=>b8a R ha h1 h2 hf
  ·rename_i x t hl ht
   rw[hl]at hargs
   obtain⟨vx,rfl,h1⟩:=b9S hargs
   simp only at ht;subst ht
   split at h
   ·rename_i n hn
    cases h
    exact r5.of_sees R ⟨goInt n,c3w hn h1 w,by simp only[rel,goInt]⟩
   ·simp only[Option.map_eq_some_iff]at h
    obtain⟨n,hn,rfl⟩:=h
    exact r5.of_sees R ⟨goInt n,b7K R hn h1,by simp only[rel,goInt]⟩
  ·rename_i x t hl ht
   rw[hl]at hargs
   obtain⟨vx,rfl,h1⟩:=b9S hargs
   simp only at ht;subst ht
   simp only[Option.map_eq_some_iff]at h
   obtain⟨n,hn,rfl⟩:=h
   exact r5.of_sees R ⟨goInt n,c3s hn h1 w,by simp only[rel,goInt]⟩
  ·rename_i d x dT tl' hl ht
   rw[hl]at hargs
   obtain⟨vd,vx,rfl,h1,h2⟩:=c4H hargs
   simp only at ht;subst ht
   simp only[Option.map_eq_some_iff]at h
   obtain⟨⟨a,H'⟩,ha,rfl⟩:=h
   exact r5.of_gives fun hf=>c2G R (ty:=ty) (tys:=⟨dT::tl'⟩) rfl ha h1 h2
  ·simp only[Option.map_eq_some_iff]at h
   obtain⟨a,ha,rfl⟩:=h
   obtain⟨v,h1,h2⟩:=a9I (P:=P) (ty:=ty) (tys:=⟨tl⟩) ha hargs w
   exact r5.of_sees R ⟨v,h1,h2⟩
  ·simp only[Option.map_eq_some_iff]at h
   obtain⟨a,ha,rfl⟩:=h
   obtain⟨v,h1,h2⟩:=a9I (P:=P) (ty:=ty) (tys:=⟨tl⟩) ha hargs w
   exact r5.of_sees R ⟨v,h1,h2⟩
  ·cases h
theorem b7n{ρa:Operand→AV}{ρv:Operand→Value}(h:∀x,rel ρ (ρa x) (ρv x))(o:Option Operand):c2F ρ (o.map ρa) (o.map ρv):=by
 cases o with
 |none=>trivial
 |some x=>exact h x
theorem a8E(R:B6 E w0 H w ρ){T:List AV}{o:Oper}{ρv:Operand→Value}{r:W7}(h:V8 P E T H o=some r)(hρ:∀x,rel ρ (i4 T x) (ρv x)):
  r5 E w0 H ρ w r ((execOp ρv o).run P w):=by
 obtain⟨dst,op,ty,pos,after,guard⟩:=o
 unfold V8 at h
 simp only at h
 split at h
 case h_1 x=>cases h;exact fun _=>⟨_,ρv x,w,ρ,rfl, .inl rfl,Ext.refl _,fun _ _=>rfl,hρ x,R,Nat.le_refl _⟩
 case h_2 x=>cases h;exact fun _=>⟨_,ρv x,w,ρ,rfl, .inl rfl,Ext.refl _,fun _ _=>rfl,hρ x,R,Nat.le_refl _⟩
 case h_3 c a b=>
  split at h
  ·rename_i t ht
   cases h
   have hc:=hρ c
   rw[ht]at hc
   simp only[rel]at hc
   refine fun _=>⟨_,if t then ρv a else ρv b,w,ρ, ?_, .inl rfl,Ext.refl _,fun _ _=>rfl, ?_,R,Nat.le_refl _⟩
   ·simp only[execOp,hc,asBool,Sem.run_bind,Sem.run_pure,Result.andThen_ok]
   ·cases t
    ·exact hρ b
    ·exact hρ a
  ·cases h
 case h_4 e=>
  split at h
  ·rename_i z hz
   cases h
   exact r5.of_gives fun hf=>b9x R hz hf
  ·cases h
 case h_5 e x=>cases h;exact r5.of_gives fun hf=>c3g R (hρ x) hf
 case h_6 t parts=>
  simp only[Option.map_eq_some_iff]at h
  obtain⟨a,ha,rfl⟩:=h
  exact r5.of_sees R (c0N ha (by rw[Array.toList_map];exact b5o hρ _) w)
 case h_7 t len parts=>
  simp only[Option.map_eq_some_iff]at h
  obtain⟨⟨a,H'⟩,ha,rfl⟩:=h
  exact r5.of_gives fun hf=>b0Z R ha (by rw[Array.toList_map];exact b5o hρ _) hf
 case h_8 t a=>
  split at h
  ·rename_i o i ha
   simp only[Option.map_eq_some_iff]at h
   obtain⟨x,hx,rfl⟩:=h
   have hr:=hρ a
   rw[ha]at hr
   simp only[rel]at hr
   obtain⟨b,d,hb,hv⟩:=hr
   obtain⟨b',d',v,h1,h2,h3⟩:=a3C (P:=P) R hx
   rw[hb]at h1;cases h1
   refine r5.of_sees R (s:=Instr.loadAt t (ρv a)) ⟨v, ?_,h3⟩
   rw[hv]
   simp only[Instr.loadAt,Instr.sureAddr,Sem.run_bind,Sem.run_pure,Result.andThen_ok,h2]
  ·cases h
 case h_9 t a x=>
  split at h
  ·rename_i o i ha
   split at h
   ·rename_i hs
    simp only[Option.map_eq_some_iff]at h
    obtain⟨H',hst,rfl⟩:=h
    have hr:=hρ a
    rw[ha]at hr
    obtain⟨g1,g2⟩:=c0U (P:=P) R hs hst hr (hρ x)
    exact r5.of_turns g1 g2
   ·cases h
  ·cases h
 case h_10 x=>
  have hr:=hρ x
  have key:∀y:AV,i4 T x=y→(match y with
    | .nilPtr| .nilIfc| .nilFn| .opq _=>none
    | .fn (.method _) _ _=>none
    |y=>some (W7.val y H))=some r→r= .val y H∧(execOp ρv ⟨dst, .nilCheck x,ty,pos,after,guard⟩).run P w= .ok (.value (ρv x)) w:=by
   intro y hy hm
   rw[hy]at hr
   cases y<;>simp only[rel]at hr
   case nilPtr=>cases hm
   case nilIfc=>cases hm
   case nilFn=>cases hm
   case opq u=>cases hm
   case fn f fa fb=>
    obtain⟨xx,yy,hv,_⟩:=hr
    cases f
    case method n=>cases hm
    all_goals
     cases hm
     refine⟨rfl, ?_⟩
     simp only[execOp,hv]
     rfl
   case ptr o i=>obtain⟨b,d,_,hv⟩:=hr;cases hm;refine⟨rfl, ?_⟩;simp only[execOp,hv];rfl
   case slc=>obtain⟨b,d,hv,_⟩:=hr;cases hm;refine⟨rfl, ?_⟩;simp only[execOp,hv];rfl
   case map=>obtain⟨b,_,hv⟩:=hr;cases hm;refine⟨rfl, ?_⟩;simp only[execOp,hv];rfl
   case ifc=>obtain⟨b,hv,_⟩:=hr;cases hm;refine⟨rfl, ?_⟩;simp only[execOp,hv];rfl
   case agg=>obtain⟨b,hv,_⟩:=hr;cases hm;refine⟨rfl, ?_⟩;simp only[execOp,hv];rfl
   case tup=>obtain⟨b,hv,_⟩:=hr;cases hm;refine⟨rfl, ?_⟩;simp only[execOp,hv];rfl
   all_goals
    cases hm
    refine⟨rfl, ?_⟩
    simp only[execOp,hr]
    rfl
  obtain⟨rfl,hrun⟩:=key _ rfl h
  exact fun _=>⟨.value (ρv x),ρv x,w,ρ,hrun, .inl rfl,Ext.refl _,fun _ _=>rfl,hr,R,Nat.le_refl _⟩
 case h_11 op t x y yt=>
  split at h
  ·rename_i hg
   simp only[Option.map_eq_some_iff]at h
   obtain⟨a,ha,rfl⟩:=h
   exact r5.of_sees R (c3Z hg ha (hρ x) (hρ y) w)
  ·cases h
 case h_12 op t x=>
  simp only[Option.map_eq_some_iff]at h
  obtain⟨a,ha,rfl⟩:=h
  exact r5.of_sees R (c5E ha (hρ x) w)
 case h_13 src d x=>
  simp only[Option.map_eq_some_iff]at h
  obtain⟨⟨a,H'⟩,ha,rfl⟩:=h
  exact r5.of_gives fun hf=>c1n R ha (hρ x) hf
 case h_14 t x=>
  split at h
  ·cases h
  ·rename_i d hd hu
   cases h
   refine r5.of_sees R (s:=Instr.makeInterface t (ρv x)) ⟨.iface t (ρv x), ?_,by simp only[rel];exact⟨_,rfl,hρ x⟩⟩
   simp only[Instr.makeInterface,Sem.run_bind,b7 hu,Result.andThen_ok]
   try (cases d<;>first|rfl|exact(hd _ hu).elim)
  ·cases h
 case h_15 fn first captured=>
  cases h
  refine r5.of_sees R (s:=Instr.makeFunc fn (first.map ρv) (captured.map ρv)) ⟨.func fn (first.map ρv) (captured.map ρv),rfl, ?_⟩
  simp only[rel]
  exact⟨_,_,rfl,by rw[Array.toList_map];exact b1u hρ _,by rw[Array.toList_map];exact b1u hρ _⟩
 case h_16 t r=>
  split at h
  ·cases h
   refine r5.of_gives (s:=Instr.makeMap t (Option.map ρv none)) fun hf=> ?_
   have hn:=hf H.next (Nat.le_refl _) (by simp)
   refine⟨.map (some w.heap.size), { w with heap:=w.heap.push (.map #[] 0) },_,rfl,a0E _ hn, ?_,by simp only[rel];exact⟨_,A8 _ _,rfl⟩,R.newMap hn,by simp⟩
   intro k hk
   rw[t6]
   rintro rfl
   exact hk ⟨Nat.le_refl _,by simp⟩
  ·cases h
 case h_17 t l c=>
  simp only[Option.map_eq_some_iff]at h
  obtain⟨⟨a,H'⟩,ha,rfl⟩:=h
  exact r5.of_gives fun hf=>b2p R ha (hρ l) (hρ c) hf
 case h_18 t x lo hi mx=>
  simp only[Option.map_eq_some_iff]at h
  obtain⟨a,ha,rfl⟩:=h
  exact r5.of_sees R (c0I R ha (hρ x) (b7n hρ lo) (b7n hρ hi) (b7n hρ mx))
 case h_19 s x f=>
  simp only[Option.map_eq_some_iff]at h
  obtain⟨a,ha,rfl⟩:=h
  exact r5.of_sees R (b7f ha (hρ x) w)
 case h_20 s x f=>
  simp only[Option.map_eq_some_iff]at h
  obtain⟨a,ha,rfl⟩:=h
  exact r5.of_sees R (b9W ha (hρ x) w)
 case h_21 t x ix=>
  simp only[Option.map_eq_some_iff]at h
  obtain⟨a,ha,rfl⟩:=h
  exact r5.of_sees R (b6t ha (hρ x) (hρ ix) w)
 case h_22 t x ix=>
  simp only[Option.map_eq_some_iff]at h
  obtain⟨a,ha,rfl⟩:=h
  exact r5.of_sees R (b9B ha (hρ x) (hρ ix) w)
 case h_23 t x ix ok=>
  simp only[Option.map_eq_some_iff]at h
  obtain⟨a,ha,rfl⟩:=h
  exact r5.of_sees R (b7P R ha (hρ x) (hρ ix))
 case h_24 t m k x=>
  simp only[Option.map_eq_some_iff]at h
  obtain⟨H',hst,rfl⟩:=h
  exact r5.of_turns (a9B R hst (hρ m) (hρ k) (hρ x)) (b3F hst)
 case h_25 t m k x=>
  simp only[Option.map_eq_some_iff]at h
  obtain⟨H',hst,rfl⟩:=h
  exact r5.of_turns (a9B R hst (hρ m) (hρ k) (hρ x)) (b3F hst)
 case h_26 t m k=>
  simp only[Option.map_eq_some_iff]at h
  obtain⟨⟨a,H'⟩,ha,rfl⟩:=h
  exact r5.of_gives fun hf=>b9G R ha (hρ m) (hρ k)
 case h_27 t m s x=>
  simp only[Option.map_eq_some_iff]at h
  obtain⟨H',hst,rfl⟩:=h
  exact r5.of_turns (b1L R hst (hρ m) (hρ s) (hρ x)) (b4I hst)
 case h_28 x xt asserted ok=>
  simp only[Option.map_eq_some_iff]at h
  obtain⟨a,ha,rfl⟩:=h
  exact r5.of_sees R (b7Y ha (hρ x) w)
 case h_29 t ix=>
  split at h
  ·rename_i vs hvs
   simp only[Option.map_eq_some_iff]at h
   obtain⟨a,ha,rfl⟩:=h
   have hr:=hρ t
   rw[hvs]at hr
   simp only[rel]at hr
   obtain⟨xs,hxs,hl⟩:=hr
   obtain⟨v,h1,h2⟩:=a2k hl ix ha
   refine r5.of_sees R (s:=Instr.extract (ρv t) ix) ⟨v, ?_,h2⟩
   rw[hxs]
   simp only[Instr.extract]
   rw[show xs[ix]? =some v by simpa using h1]
   rfl
  ·cases h
 case h_30 c=>exact c1X R h hρ
 case h_31=>cases h
end
end
end Go.Am
end
