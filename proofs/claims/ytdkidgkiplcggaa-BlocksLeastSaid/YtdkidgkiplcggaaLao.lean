/-
  BlocksLeastSaid: part Lao of its proof.
-/
import Derived.Test.YtdkidgkiplcggaaLan
set_option linter.unusedVariables false
set_option linter.unusedSimpArgs false
set_option maxRecDepth 100000
section
namespace Go.Am
section
variable{P:Program}{E:d6}{R:Fz}{S:b4}{H0:AHeap}
theorem U9{x:D}{v:AV}(h:Rp E R x v){y n:Nat}(hb:A4 x y=some n):J0 v y=some n∧n≤y:=by
 cases x<;>simp only[A4]at hb<;>try (cases hb;done)
 simp only[Rp]at h
 subst h
 split at hb
 ·rename_i hn
  cases hb
  exact⟨by simp only[J0];rw[if_pos hn],by omega⟩
 ·cases hb
def RpO(E:d6)(R:Fz):Option D→Option AV→Prop
 |none,none=>True
 |some d,some v=>Rp E R d v
 |_,_=>False
theorem a2W{lo hi mx:Option D}{vlo vhi vmx:Option AV}(h1:RpO E R lo vlo)(h2:RpO E R hi vhi)(h3:RpO E R mx vmx){len cap cap' l h m:Nat}(hlc:len≤cap)
  (e:D5 len cap lo hi mx=some (l,h,m)) (hc:cap≤cap') (hx:mx=none→hi=none∨True):
  ∃m',a0s len cap' vlo vhi vmx=some (l,h,m')∧l≤h∧h≤cap∧h≤m'∧(m'=m∨(mx=none∧m'=cap'∧m=cap)):=by
 unfold D5 at e
 cases ht:b5f cap mx with
 |none=>rw[ht]at e;cases e
 |some m0=>
  rw[ht,Option.bind_some]at e
  cases hh:a4G len m0 hi mx with
  |none=>rw[hh]at e;cases e
  |some h0=>
   rw[hh,Option.bind_some]at e
   cases hl:b0C h0 lo with
   |none=>rw[hl]at e;cases e
   |some l0=>
    rw[hl,Option.bind_some]at e
    cases e
    have low:b7T h vlo=some l∧l≤h:=by
     cases lo with
     |none=>
      cases vlo with
      |none=>cases hl;exact⟨rfl,Nat.zero_le _⟩
      |some v=>exact h1.elim
     |some d=>
      cases vlo with
      |none=>exact h1.elim
      |some v=>exact U9 h1 hl
    cases mx with
    |none=>
     cases vmx with
     |some v=>exact h3.elim
     |none=>
      cases ht
      have high:a6m len cap' vhi none=some h∧h≤cap:=by
       cases hi with
       |none=>
        cases vhi with
        |some v=>exact h2.elim
        |none=>cases hh;exact⟨rfl,hlc⟩
       |some d=>
        cases vhi with
        |none=>exact h2.elim
        |some v=>
         have hh':A4 d cap=some h:=hh
         obtain⟨a,b⟩:=U9 h2 hh'
         refine⟨?_,b⟩
         show J0 v cap'=some h
         cases v<;>simp only[J0]at a ⊢ <;>try (cases a;done)
         split at a
         ·cases a;rw[if_pos (by omega)]
         ·cases a
      refine⟨cap', ?_,low.2,high.2,by omega, .inr ⟨rfl,rfl,rfl⟩⟩
      simp only[a0s,b7d,Option.bind_some,high.1,low.1]
    |some dm=>
     cases vmx with
     |none=>exact h3.elim
     |some vm=>
      have ht':A4 dm cap=some m:=ht
      obtain⟨a,b⟩:=U9 h3 ht'
      have a':J0 vm cap'=some m:=by
       cases vm<;>simp only[J0]at a ⊢ <;>try (cases a;done)
       split at a
       ·cases a;rw[if_pos (by omega)]
       ·cases a
      cases hi with
      |none=>cases hh
      |some d=>
       cases vhi with
       |none=>exact h2.elim
       |some v=>
        obtain⟨c,d'⟩:=U9 h2 (show A4 d m=some h from hh)
        refine⟨m, ?_,low.2,by omega,d', .inl rfl⟩
        show(b7d cap' (some vm)).bind _=_
        rw[show b7d cap' (some vm)=some m from a',Option.bind_some,show a6m len m (some v) (some vm)=some h from c,Option.bind_some,low.1,Option.bind_some]
theorem b0V{lo hi mx:Option D}{len cap l h m:Nat}(e:D5 len cap lo hi mx=some (l,h,m)):m≤cap:=by
 unfold D5 at e
 cases ht:b5f cap mx with
 |none=>rw[ht]at e;cases e
 |some m0=>
  rw[ht,Option.bind_some]at e
  have hm:m0≤cap:=by
   cases mx with
   |none=>cases ht;exact Nat.le_refl _
   |some d=>
    replace ht:A4 d cap=some m0:=ht
    unfold A4 at ht
    split at ht
    ·split at ht
     ·cases ht;omega
     ·cases ht
    ·cases ht
  cases hh:a4G len m0 hi mx with
  |none=>rw[hh]at e;cases e
  |some h0=>
   rw[hh,Option.bind_some]at e
   cases hl:b0C h0 lo with
   |none=>rw[hl]at e;cases e
   |some l0=>rw[hl,Option.bind_some]at e;cases e;exact hm
theorem a8W{rows:List (List D)}{sz:Nat}(h:∀row∈rows,row.length=sz){all:List AV}{j:Nat}(hr:U0 E R rows ((all.drop j).take (rows.length*sz)))(hs:((all.drop j).take (rows.length*sz)).all j4=true)(l n:Nat)(hn:l+n≤rows.length):
  U0 E R ((rows.drop l).take n) ((all.drop (j+l*sz)).take (((rows.drop l).take n).length*sz))∧((all.drop (j+l*sz)).take (((rows.drop l).take n).length*sz)).all j4=true:=by
 have hlen:((rows.drop l).take n).length=n:=by rw[List.length_take,List.length_drop];omega
 have hle:l*sz+n*sz≤rows.length*sz:=by rw[←Nat.add_mul];exact Nat.mul_le_mul_right _ hn
 have e:(all.drop (j+l*sz)).take (n*sz)=(((all.drop j).take (rows.length*sz)).drop (l*sz)).take (n*sz):=a3o hle
 have hd:∀row∈rows.drop l,row.length=sz:=fun row hx=>h row (List.mem_of_mem_drop hx)
 rw[hlen,e]
 refine⟨?_,C8 (Q1 hs _) _⟩
 rw[B6, ←R7 hd, ←X1 h]
 exact((B6.1 hr).drop _).take _
theorem b8G{rows:List (List D)}{sz:Nat}(h:∀row∈rows,row.length=sz){o:Id}{all:List AV}{j z:Nat}(ho:rdE E R o=some all)(hf:c0R o z sz)(hr:U0 E R rows ((all.drop j).take (rows.length*sz)))(hs:((all.drop j).take (rows.length*sz)).all j4=true)
  {l hh m m':Nat} (h1:l≤hh) (h2:hh≤m) (h3:m≤rows.length) (h4:m≤m') (ex:Bool):
  Rp E R (b4r ((rows.drop l).take (hh - l)) ((rows.drop hh).take (m - hh)) sz) (.slc o (j+l*sz) (hh - l) (m' - l) ex z):=by
 have hl':((rows.drop l).take (hh - l)).length=hh - l:=by rw[List.length_take,List.length_drop];omega
 have hm':((rows.drop hh).take (m - hh)).length=m - hh:=by rw[List.length_take,List.length_drop];omega
 have hrl:∀row∈(rows.drop l).take (hh - l),row.length=sz:=fun row hr=>h row (List.mem_of_mem_drop (List.mem_of_mem_take hr))
 have hrm:∀row∈(rows.drop hh).take (m - hh),row.length=sz:=fun row hr=>h row (List.mem_of_mem_drop (List.mem_of_mem_take hr))
 have p1:=a8W h hr hs l (hh - l) (by omega)
 have p2:=a8W h hr hs hh (m - hh) (by omega)
 have p3:=a8W h hr hs l (m - l) (by omega)
 unfold b4r
 split
 ·simp only[Rp]
  exact .inr ⟨o,j+l*sz,m' - l,ex,z,by rw[hl'],hf,by rw[hl'];omega,hrl, .inr ⟨all,ho,p1⟩⟩
 ·skip
  simp only[Rp]
  refine⟨o,j+l*sz,m' - l,ex,z,all,by rw[hl'],hf,by rw[hl',hm'];omega,hrl,hrm, .inl ho,p1.1, ?_, ?_⟩
  ·have e:j+l*sz+((rows.drop l).take (hh - l)).length*sz=j+hh*sz:=by rw[hl',Nat.add_assoc, ←Nat.add_mul];congr 2;omega
   rw[e];exact p2.1
  ·have e:((rows.drop l).take (hh - l)).length+((rows.drop hh).take (m - hh)).length=((rows.drop l).take (m - l)).length:=by
    rw[hl',hm',List.length_take,List.length_drop];omega
   rw[e];exact p3.2
theorem c1d{rows more:List (List D)}{sz:Nat}{all:List AV}{j:Nat}(h1:U0 E R rows ((all.drop j).take (rows.length*sz)))(h2:U0 E R more ((all.drop (j+rows.length*sz)).take (more.length*sz))):U0 E R (rows++more) ((all.drop j).take ((rows++more).length*sz)):=by
 rw[B6]at*
 rw[List.flatten_append,List.length_append,Nat.add_mul,List.take_add]
 refine h1.append ?_
 rw[List.drop_drop]
 exact h2
theorem c1J{t:TypeId}{x:D}{v:AV}(hx:Rp E R x v){lo hi mx:Option D}{vlo vhi vmx:Option AV}(h1:RpO E R lo vlo)(h2:RpO E R hi vhi)(h3:RpO E R mx vmx){d:D}(h:b7s P t x lo hi mx=some d):
  ∃y,Rp E R d y∧∀H,W4 P H t v vlo vhi vmx=some y:=by
 unfold b7s at h
 split at h
 ·rename_i hu
  cases mx with
  |some m=>cases h
  |none=>
   cases vmx with
   |some m=>exact h3.elim
   |none=>
    cases x<;>simp only[b7f]at h<;>try (cases h;done)
    rename_i s
    simp only[Rp]at hx
    subst hx
    cases hb:D5 s.length s.length lo hi none with
    |none=>rw[hb]at h;cases h
    |some r=>
     obtain⟨l,hh,m⟩:=r
     rw[hb]at h
     cases h
     obtain⟨m',e,_⟩:=a2W h1 h2 h3 (Nat.le_refl _) hb (Nat.le_refl _) (fun _=> .inr trivial)
     refine⟨.str ((s.drop l).take (hh - l)),by simp only[Rp],fun H=> ?_⟩
     simp only[W4,hu,e,Option.isSome_none,Bool.false_eq_true,if_false,Option.bind_eq_bind,Option.bind_some]
 ·rename_i el hu
  split at h
  ·rename_i sz hsz
   cases x<;>simp only[V6]at h<;>try (cases h;done)
   ·
    simp only[Rp]at hx
    subst hx
    cases hb:D5 0 0 lo hi mx with
    |none=>rw[hb]at h;cases h
    |some r=>
     obtain⟨l,hh,m⟩:=r
     rw[hb]at h
     cases h
     obtain⟨m',e,_⟩:=a2W h1 h2 h3 (Nat.le_refl _) hb (Nat.le_refl _) (fun _=> .inr trivial)
     refine⟨.nilSlc,by simp only[Rp],fun H=> ?_⟩
     simp only[W4,hu,hsz,e,Option.bind_eq_bind,Option.bind_some]
   ·
    rename_i rows z
    split at h
    ·rename_i hz
     subst hz
     simp only[Rp]at hx
     rcases hx with ⟨rfl,rfl⟩|⟨o,j,cap,ex,z',rfl,f1,f2,f3,f4⟩
     ·cases hb:D5 0 0 lo hi mx with
      |none=>simp only[List.length_nil,hb]at h;cases h
      |some r=>
       obtain⟨l,hh,m⟩:=r
       simp only[List.length_nil,hb,Option.map_some,List.drop_nil,List.take_nil,b4r]at h
       cases h
       obtain⟨m',e,_⟩:=a2W h1 h2 h3 (Nat.le_refl _) hb (Nat.le_refl _) (fun _=> .inr trivial)
       refine⟨.nilSlc,by simp only[Rp];exact .inl ⟨by trivial,by trivial⟩,fun H=> ?_⟩
       simp only[W4,hu,hsz,e,Option.bind_eq_bind,Option.bind_some]
     cases hb:D5 rows.length rows.length lo hi mx with
     |none=>rw[hb]at h;cases h
     |some r=>
      obtain⟨l,hh,m⟩:=r
      rw[hb]at h
      cases h
      obtain⟨m',e,g1,g2,g3,g4⟩:=a2W h1 h2 h3 (Nat.le_refl _) hb f2 (fun _=> .inr trivial)
      have hf:a1n o z' z=true:=by
       cases o with
       |old b=>rfl
       |new k=>have:z'=z:=f1;simp[a1n,this]
      have hm:m≤rows.length∧hh≤m∧m≤m':=by
       have:=b0V hb
       rcases g4 with g4|⟨_,g4,g5⟩<;>omega
      refine⟨.slc o (j+l*z) (hh - l) (m' - l) (ex||vmx.isSome) z', ?_,fun H=> ?_⟩
      ·rcases f4 with rfl|⟨all,k1,k2,k3⟩
       ·simp only[List.drop_nil,List.take_nil,b4r,Rp]
        have:hh=0:=by simpa using g2
        exact .inr ⟨o,j+l*z,m' - l,ex||vmx.isSome,z',by simp[this],f1,Nat.zero_le _,fun row hr=>(by cases hr), .inl (by trivial)⟩
       ·exact b8G f3 k1 f1 k2 k3 g1 hm.2.1 hm.1 hm.2.2 _
      ·simp only[W4,hu,hsz,e,Option.bind_eq_bind,Option.bind_some,hf,if_true]
    ·cases h
   ·
    rename_i rows more z
    split at h
    ·rename_i hz
     subst hz
     simp only[Rp]at hx
     obtain⟨o,j,cap,ex,z',all,rfl,f1,f2,f3,f4,f5,f6,f7,f8⟩:=hx
     cases hb:D5 rows.length (rows++more).length lo hi mx with
     |none=>rw[hb]at h;cases h
     |some r=>
      obtain⟨l,hh,m⟩:=r
      rw[hb]at h
      cases h
      obtain⟨m',e,g1,g2,g3,g4⟩:=a2W h1 h2 h3 (cap:=(rows++more).length) (by rw[List.length_append];omega) hb (cap':=cap) (by rw[List.length_append];omega) (fun _=> .inr trivial)
      have hf:a1n o z' z=true:=by
       cases o with
       |old b=>rfl
       |new k=>have:z'=z:=f1;simp[a1n,this]
      have hm:m≤(rows++more).length∧hh≤m∧m≤m':=by
       have:=b0V hb
       rw[List.length_append]at*
       rcases g4 with g4|⟨_,g4,g5⟩<;>omega
      refine⟨.slc o (j+l*z) (hh - l) (m' - l) (ex||vmx.isSome) z', ?_,fun H=> ?_⟩
      ·rcases f5 with f5|⟨rfl,rfl⟩
       rotate_left
       ·simp only[List.append_nil,List.drop_nil,List.take_nil,List.length_nil]at hm ⊢
        show Rp E R (.lst [] z) _
        simp only[Rp]
        have e0:hh - l=0:=by omega
        exact .inr ⟨o,j+l*z,m' - l,ex||vmx.isSome,z',by rw[e0];rfl,f1,Nat.zero_le _,fun row hr=>(by cases hr), .inl trivial⟩
       refine b8G (rows:=rows++more) (fun row hr=>(List.mem_append.1 hr).elim (f3 row) (f4 row)) f5 f1 (c1d f6 f7) ?_ g1 hm.2.1 hm.1 hm.2.2 _
       rw[List.length_append];exact f8
      ·simp only[W4,hu,hsz,e,Option.bind_eq_bind,Option.bind_some,hf,if_true]
    ·cases h
   ·
    rename_i k i len cap ex z
    split at h
    ·rename_i hz
     subst hz
     simp only[Rp]at hx
     obtain⟨hmz,rfl⟩:=hx
     cases hb:D5 len cap lo hi mx with
     |none=>rw[hb]at h;cases h
     |some r=>
      obtain⟨l,hh,m⟩:=r
      rw[hb]at h
      cases h
      have key:a0s len cap vlo vhi vmx=some (l,hh,m)∧(mx.isSome=vmx.isSome):=by
       refine⟨?_, ?_⟩
       ·unfold D5 at hb
        unfold a0s
        cases mx with
        |none=>
         cases vmx with
         |some v=>exact h3.elim
         |none=>
          rw[show b5f cap none=some cap from rfl,Option.bind_some]at hb
          rw[show b7d cap none=some cap from rfl,Option.bind_some]
          cases hi with
          |none=>
           cases vhi with
           |some v=>exact h2.elim
           |none=>
            rw[show a4G len cap none none=some len from rfl,Option.bind_some]at hb
            rw[show a6m len cap none none=some len from rfl,Option.bind_some]
            cases lo with
            |none=>
             cases vlo with
             |some v=>exact h1.elim
             |none=>exact hb
            |some dl=>
             cases vlo with
             |none=>exact h1.elim
             |some v=>
              cases hq:A4 dl len with
              |none=>rw[show b0C len (some dl)=A4 dl len from rfl,hq]at hb;cases hb
              |some q=>
               rw[show b0C len (some dl)=A4 dl len from rfl,hq]at hb
               rw[show b7T len (some v)=J0 v len from rfl,(U9 h1 hq).1]
               exact hb
          |some dh=>
           cases vhi with
           |none=>exact h2.elim
           |some vh=>
            cases hq:A4 dh cap with
            |none=>rw[show a4G len cap (some dh) none=A4 dh cap from rfl,hq]at hb;cases hb
            |some q=>
             rw[show a4G len cap (some dh) none=A4 dh cap from rfl,hq,Option.bind_some]at hb
             rw[show a6m len cap (some vh) none=J0 vh cap from rfl,(U9 h2 hq).1,Option.bind_some]
             cases lo with
             |none=>
              cases vlo with
              |some v=>exact h1.elim
              |none=>exact hb
             |some dl=>
              cases vlo with
              |none=>exact h1.elim
              |some v=>
               cases hq2:A4 dl q with
               |none=>rw[show b0C q (some dl)=A4 dl q from rfl,hq2]at hb;cases hb
               |some q2=>
                rw[show b0C q (some dl)=A4 dl q from rfl,hq2]at hb
                rw[show b7T q (some v)=J0 v q from rfl,(U9 h1 hq2).1]
                exact hb
        |some dm=>
         cases vmx with
         |none=>exact h3.elim
         |some vm=>
          cases hqm:A4 dm cap with
          |none=>rw[show b5f cap (some dm)=A4 dm cap from rfl,hqm]at hb;cases hb
          |some qm=>
           rw[show b5f cap (some dm)=A4 dm cap from rfl,hqm,Option.bind_some]at hb
           rw[show b7d cap (some vm)=J0 vm cap from rfl,(U9 h3 hqm).1,Option.bind_some]
           cases hi with
           |none=>cases hb
           |some dh=>
            cases vhi with
            |none=>exact h2.elim
            |some vh=>
             cases hq:A4 dh qm with
             |none=>rw[show a4G len qm (some dh) (some dm)=A4 dh qm from rfl,hq]at hb;cases hb
             |some q=>
              rw[show a4G len qm (some dh) (some dm)=A4 dh qm from rfl,hq,Option.bind_some]at hb
              rw[show a6m len qm (some vh) (some vm)=J0 vh qm from rfl,(U9 h2 hq).1,Option.bind_some]
              cases lo with
              |none=>
               cases vlo with
               |some v=>exact h1.elim
               |none=>exact hb
              |some dl=>
               cases vlo with
               |none=>exact h1.elim
               |some v=>
                cases hq2:A4 dl q with
                |none=>rw[show b0C q (some dl)=A4 dl q from rfl,hq2]at hb;cases hb
                |some q2=>
                 rw[show b0C q (some dl)=A4 dl q from rfl,hq2]at hb
                 rw[show b7T q (some v)=J0 v q from rfl,(U9 h1 hq2).1]
                 exact hb
       ·cases mx<;>cases vmx<;>first|rfl|exact h3.elim
      refine⟨.slc (.new k) (i*z+l*z) (hh - l) (m - l) (ex||vmx.isSome) z, ?_,fun H=> ?_⟩
      ·simp only[Rp]
       exact⟨hmz,by rw[key.2,Nat.add_mul]⟩
      ·simp only[W4,hu,hsz,key.1,Option.bind_eq_bind,Option.bind_some,a1n,beq_self_eq_true,if_true]
    ·cases h
  ·cases h
 ·cases h
theorem c1F{x:D}{v:AV}(hx:Rp E R x v){off:Nat}{d:D}(h:u7 off x=some d):∃o i,v= .ptr o i∧Rp E R d (.ptr o (i+off)):=by
 cases x<;>simp only[u7]at h<;>try (cases h;done)
 all_goals
  cases h
  simp only[Rp]at hx ⊢
 ·subst hx;exact⟨_,_,rfl,rfl⟩
 ·obtain⟨hmz,rfl⟩:=hx;exact⟨_,_,rfl,hmz,by rw[Nat.add_assoc]⟩
 ·obtain⟨o,j,all,rfl,e2,e3⟩:=hx
  exact⟨_,_,rfl,o,j,all,by rw[Nat.add_assoc],e2,e3⟩
theorem b8s{s:TypeId}{x:D}{v:AV}(hx:Rp E R x v){f:Nat}{d:D}(h:b2l P s x f=some d):∃y,Rp E R d y∧a1r P s v f=some y:=by
 unfold b2l at h
 cases hf:a0T P s f with
 |none=>rw[hf]at h;cases h
 |some fl=>
  simp only[hf]at h
  split at h
  ·rename_i n hs
   obtain⟨o,i,rfl,h1⟩:=c1F hx h
   refine⟨_,h1, ?_⟩
   simp only[a1r,hf,hs,Option.bind_eq_bind,Option.bind_some,Option.isSome_some,true_and]
   rw[if_pos (by simp)]
  ·cases h
theorem b9b{t:TypeId}{x:D}{v:AV}(hx:Rp E R x v){off:Nat}{d:D}(h:b6X P t off x=some d):∃cs y,v= .agg cs∧Rp E R d y∧a6n P t cs off=some y:=by
 unfold b6X at h
 cases hg:a3O P t with
 |none=>rw[hg]at h;cases h
 |some b=>
  simp only[hg]at h
  cases b with
  |true=>
   cases hs:s7 P t with
   |none=>rw[hs]at h;cases h
   |some n=>
    simp only[hs]at h
    cases x<;>simp only[b5x]at h<;>try (cases h;done)
    cases h
    simp only[Rp]at hx
    obtain⟨vs,rfl,h1,h2⟩:=hx
    refine⟨vs, .agg ((vs.drop off).take n),rfl, ?_,by simp only[a6n,hg,hs,Option.pure_def,Option.bind_eq_bind,Option.bind_some,if_true]⟩
    simp only[Rp]
    exact⟨_,rfl,(h1.drop off).take n,C8 (Q1 h2 off) n⟩
  |false=>
   simp only at h
   cases x<;>simp only[b5a]at h<;>try (cases h;done)
   simp only[Rp]at hx
   obtain⟨vs,rfl,h1,h2⟩:=hx
   obtain⟨y,e1,e2⟩:=a0R h1 h
   exact⟨vs,y,rfl,e2,by simp only[a6n,hg,Option.bind_eq_bind,Option.bind_some,Bool.false_eq_true,if_false,e1]⟩
theorem c1r{s:TypeId}{x:D}{v:AV}(hx:Rp E R x v){f:Nat}{d:D}(h:b7z P s x f=some d):∃y,Rp E R d y∧a7a P s v f=some y:=by
 unfold b7z at h
 cases hf:a0T P s f with
 |none=>rw[hf]at h;cases h
 |some fl=>
  simp only[hf]at h
  obtain⟨cs,y,rfl,h1,h2⟩:=b9b hx h
  exact⟨y,h1,by simp only[a7a,hf,Option.bind_eq_bind,Option.bind_some,h2]⟩
theorem b8r{t:TypeId}{x ix:D}{v vi:AV}(hx:Rp E R x v)(hi:Rp E R ix vi){d:D}(h:b2k P t x ix=some d):∃y,Rp E R d y∧U7 P t v vi=some y:=by
 unfold b2k at h
 split at h
 ·rename_i e hu
  split at h
  ·rename_i sz hs
   cases ix<;>simp only[l7]at h<;>try (cases h;done)
   rename_i k n
   simp only[Rp]at hi
   subst hi
   cases x<;>simp only at h<;>try (cases h;done)
   ·rename_i rows z
    split at h
    ·rename_i hz
     obtain⟨rfl,h0⟩:=hz
     split at h
     ·rename_i row hrow
      cases h
      simp only[Rp]at hx
      rcases hx with ⟨rfl,_⟩|⟨o,j,cap,ex,z',rfl,f1,f2,f3,f4⟩
      ·cases hrow
      have hlt:=(List.getElem?_eq_some_iff.1 hrow).1
      have hrl:=f3 row (List.mem_of_getElem? hrow)
      rcases f4 with rfl|⟨all,k1,k2,k3⟩
      ·cases hrow
      refine⟨.ptr o (j+n.toNat*z), ?_, ?_⟩
      ·simp only[Rp]
       refine⟨o,j+n.toNat*z,all,rfl,k1, ?_⟩
       have hle:n.toNat*z+z≤rows.length*z:=by rw[←Nat.succ_mul];exact Nat.mul_le_mul_right _ hlt
       rw[hrl,a3o (L:=rows.length*z) hle]
       refine⟨?_,C8 (Q1 k3 _) _⟩
       have:=((B6.1 k2).drop (n.toNat*z)).take z
       rw[a4S f3 hrow]at this
       exact this
      ·simp only[U7,M7,hu,hs,Option.bind_eq_bind,Option.bind_some]
       rw[if_pos (by omega)]
     ·cases h
    ·cases h
   ·rename_i rows more z
    split at h
    ·rename_i hz
     obtain⟨rfl,h0⟩:=hz
     split at h
     ·rename_i row hrow
      cases h
      simp only[Rp]at hx
      obtain⟨o,j,cap,ex,z',all,rfl,f1,f2,f3,f4,k1,k2,f7,k3⟩:=hx
      have hlt:=(List.getElem?_eq_some_iff.1 hrow).1
      have k1:=k1.resolve_right fun h=>by rw[h.1]at hlt;simp at hlt
      have hrl:=f3 row (List.mem_of_getElem? hrow)
      refine⟨.ptr o (j+n.toNat*z), ?_, ?_⟩
      ·simp only[Rp]
       refine⟨o,j+n.toNat*z,all,rfl,k1, ?_⟩
       have hle:n.toNat*z+z≤rows.length*z:=by rw[←Nat.succ_mul];exact Nat.mul_le_mul_right _ hlt
       have hle':rows.length*z≤(rows.length+more.length)*z:=Nat.mul_le_mul_right _ (by omega)
       rw[hrl]
       refine⟨?_,by rw[a3o (L:=(rows.length+more.length)*z) (by omega)];exact C8 (Q1 k3 _) _⟩
       rw[a3o (L:=rows.length*z) hle]
       have:=((B6.1 k2).drop (n.toNat*z)).take z
       rw[a4S f3 hrow]at this
       exact this
      ·simp only[U7,M7,hu,hs,Option.bind_eq_bind,Option.bind_some]
       rw[if_pos (by omega)]
     ·cases h
    ·cases h
   ·rename_i k i len cap ex z
    split at h
    ·rename_i hz
     obtain⟨rfl,h0,h1⟩:=hz
     cases h
     simp only[Rp]at hx
     obtain⟨hmz,rfl⟩:=hx
     refine⟨.ptr (.new k) ((i+n.toNat)*z+0),by simp only[Rp];exact⟨hmz,by trivial⟩, ?_⟩
     simp only[U7,M7,hu,hs,Option.bind_eq_bind,Option.bind_some]
     rw[if_pos ⟨h0,h1⟩,Nat.add_mul,Nat.add_zero]
    ·cases h
  ·cases h
 ·rename_i len e hu
  split at h
  ·rename_i sz hs
   cases ix<;>simp only[c1y]at h<;>try (cases h;done)
   rename_i k n
   simp only[Rp]at hi
   subst hi
   split at h
   ·rename_i hn
    obtain⟨o,i,rfl,h1⟩:=c1F hx h
    refine⟨_,h1, ?_⟩
    simp only[U7,M7,hu,hs,Option.bind_eq_bind,Option.bind_some]
    rw[if_pos hn]
   ·cases h
  ·cases h
 ·cases h
theorem b6a{t:TypeId}{x ix:D}{v vi:AV}(hx:Rp E R x v)(hi:Rp E R ix vi){d:D}(h:b7L P t x ix=some d):∃y,Rp E R d y∧a4N P t v vi=some y:=by
 unfold b7L at h
 split at h
 ·rename_i hu
  cases ix<;>simp only[c1M]at h<;>try (cases h;done)
  rename_i k n
  cases x<;>simp only at h<;>try (cases h;done)
  rename_i s
  simp only[Rp]at hi hx
  subst hi hx
  split at h
  ·rename_i h0
   split at h
   ·rename_i b hb
    cases h
    refine⟨_,by simp only[Rp];rfl, ?_⟩
    simp only[a4N,M7,hu,Option.bind_eq_bind,Option.bind_some,hb]
    rw[if_pos h0]
    rfl
   ·cases h
  ·cases h
 ·rename_i len e hu
  split at h
  ·rename_i sz ag hs hag
   cases ix<;>simp only[c1j]at h<;>try (cases h;done)
   rename_i kk n
   simp only[Rp]at hi
   subst hi
   split at h
   ·rename_i hn
    have hp:b6X P e (n.toNat*sz) x=some d:=by
     unfold b6X
     rw[hag]
     cases ag with
     |true=>simp only[hs];exact h
     |false=>exact h
    obtain⟨cs,y,rfl,h1,h2⟩:=b9b hx hp
    refine⟨y,h1, ?_⟩
    simp only[a4N,M7,hu,hs,Option.bind_eq_bind,Option.bind_some]
    rw[if_pos hn]
    exact h2
   ·cases h
  ·cases h
 ·cases h
theorem b8Z:∀ {rows:List (List D)} {es:List (AV×AV×Nat)},RpE E R rows es→es.length=rows.length
 | [],es,h=>by simp only[RpE]at h;rw[h];rfl
 |row::rows,es,h=>by obtain⟨_,_,e,es',_,rfl,_,_,h⟩:=h;rw[List.length_cons,List.length_cons,b8Z h]
theorem c0z{es es':List (AV×AV×Nat)}(h:es.map b3n=es'.map b3n):es=es':=by
 induction es generalizing es' with
 |nil=>cases es' with|nil=>rfl|cons e es'=>cases h
 |cons e es ih=>
  cases es' with
  |nil=>cases h
  |cons e' es'=>
   simp only[List.map_cons,List.cons.injEq,b3n,AV.tup.injEq,AV.int.injEq,true_and,and_true,Int.natCast_inj]at h
   obtain⟨⟨h1,h2,h3⟩,h4⟩:=h
   rw[ih h4]
   congr 1
   exact Prod.ext h1 (Prod.ext h2 h3)
theorem c0t(hC:n9 E R S H0){x:D}{v:AV}(hx:Rp E R x v){rows:List (List D)}(h:b7O S x=some rows):∃es,RpE E R rows es∧∀H,Agr R S (a7Q x) H→a0x H v=some es:=by
 cases x<;>simp only[b7O]at h<;>try (cases h;done)
 ·cases h
  simp only[Rp]at hx
  subst hx
  exact⟨[],by simp only[RpE],fun H _=>rfl⟩
 ·rename_i k
  simp only[Rp]at hx
  subst hx
  split at h
  ·rename_i o hk
   obtain⟨_,es,cl,a,g,r,_⟩:=hC.mapAt hk h
   refine⟨es,r,fun H hA=> ?_⟩
   obtain⟨es',cl',a',g'⟩:=hA.mp k o rows rfl hk h
   rw[a]at a'
   simp only[a0x,g',c0z a']
  ·cases h
theorem b2G{a b:D}{va vb:AV}(ha:Rp E R a va)(hb:Rp E R b vb){r:Bool}(h:b5d a b=some r):b3V va vb=some r:=by
 cases a<;>simp only[b5d]at h<;>try (cases h;done)
 all_goals
  cases b<;>simp only at h<;>try (cases h;done)
  all_goals
   simp only[Rp]at ha hb
   subst ha hb
   exact h
theorem a5z{k:D}{vk:AV}(hk:Rp E R k vk):∀ {rows:List (List D)} {es:List (AV×AV×Nat)} {i:Nat} {r:Option (Nat×D×D)},RpE E R rows es→a6t k rows i=some r→
  match r with
  |none=>a2V vk es i=some none
  |some (j,v,n)=>∃(e:AV×AV×Nat) (kd:D),i≤j∧es[j - i]? =some e∧rows[j - i]? =some [kd,v,n]∧n= .int .i64 e.2.2∧Rp E R kd e.1∧Rp E R v e.2.1∧a2V vk es i=some (some (j,e.2.1,e.2.2))
 | [],es,i,r,he,h=>by
  simp only[RpE]at he
  subst he
  cases h
  rfl
 |row::rows,es,i,r,he,h=>by
  obtain⟨kd,vd,⟨ek,ev,en⟩,es',rfl,rfl,h1,h2,h3⟩:=he
  simp only[a6t]at h
  split at h
  ·rename_i hq
   cases h
   refine⟨(ek,ev,en),kd,Nat.le_refl _,by rw[Nat.sub_self];rfl,by rw[Nat.sub_self];rfl,rfl,h1,h2, ?_⟩
   simp only[a2V,b2G hk h1 hq]
  ·rename_i hq
   have ih:=a5z hk h3 h
   cases r with
   |none=>simp only[a2V,b2G hk h1 hq];exact ih
   |some r=>
    obtain⟨j,v,n⟩:=r
    obtain⟨e,kd',a,b,c,d,f,g,q⟩:=ih
    have hj:j - i=(j - (i+1))+1:=by omega
    refine⟨e,kd',by omega,by rw[hj];exact b,by rw[hj];exact c,d,f,g, ?_⟩
    simp only[a2V,b2G hk h1 hq]
    exact q
  ·cases h
theorem b1w{t:TypeId}{kk:Nat}(h:a8n P t=some kk){d:D}{v:AV}(hd:Rp E R d v)(hi:a7B kk d=true):a2i P t v=true:=by
 unfold a8n at h
 unfold a2i
 cases d<;>simp only[a7B,beq_iff_eq]at hi<;>try (cases hi;done)
 all_goals
  subst hi
  simp only[Rp]at hd
  subst hd
  split at h<;>simp_all
theorem b9B(hC:n9 E R S H0){t:TypeId}{x ix:D}{v vi:AV}(hx:Rp E R x v)(hi:Rp E R ix vi){ok:Bool}{d:D}(h:b4Q P S t x ix ok=some d):∃y,Rp E R d y∧∀H,Agr R S (a7Q x) H→Y3 P H t v vi ok=some y:=by
 unfold b4Q at h
 split at h
 ·rename_i kt e hu
  split at h
  ·rename_i kk z hkk hz
   unfold a4B at h
   split at h
   ·rename_i hki
    split at h
    ·rename_i rows hent
     obtain⟨es,h1,h2⟩:=c0t hC hx hent
     have hf:=b1w hkk hi hki
     have fin:∀ {w:AV} {b:Bool},b4A P e (a2V vi es 0)=some (w,b)→∀H,Agr R S (a7Q x) H→Y3 P H t v vi ok=some (if ok then .tup [w, .bool b]else w):=by
      intro w b hw H hA
      unfold Y3
      rw[hu]
      simp only[hf,if_true,h2 H hA,Option.bind_some,hw]
     have tupR:∀ {d:D} {w:AV} {b:Bool},Rp E R d w→Rp E R (if ok then .tup [d, .bool b]else d) (if ok then .tup [w, .bool b]else w):=by
      intro d w b hd
      cases ok
      ·exact hd
      ·simp only[if_true,Rp]
       exact⟨_,rfl,m6 hd (m6 (by simp only[Rp]) u5)⟩
     cases hfd:a6t ix rows 0 with
     |none=>rw[hfd]at h;cases h
     |some r=>
      rw[hfd]at h
      have g:=a5z hi h1 hfd
      cases r with
      |none=>
       cases h
       exact⟨_,tupR (a5r (v:=z)),fin (by rw[g];simp only[b4A,hz,Option.map_some])⟩
      |some r=>
       obtain⟨j,vd,n⟩:=r
       obtain⟨en,kd,_,_,_,_,_,g2,g3⟩:=g
       cases h
       exact⟨_,tupR g2,fin (by rw[g3];rfl)⟩
    ·cases h
   ·cases h
  ·cases h
 ·cases h
theorem c3p(hC:n9 E R S H0){t:TypeId}{x:D}{v:AV}(hx:Rp E R x v){d:D}(h:c3E P S t x=some d):∃y,Rp E R d y∧∀H,Agr R S (if a8z P t then a7Q x else none) H→b8k P H t v=some y:=by
 unfold c3E at h
 have go:∀ {n:Nat},a6Y P t v=some n→d= .int .i64 n→∃y,Rp E R d y∧∀H,Agr R S (if a8z P t then a7Q x else none) H→b8k P H t v=some y:=by
  intro n e1 e2
  subst e2
  exact⟨.int .i64 n,by simp only[Rp],fun H _=>by simp only[b8k,e1]⟩
 split at h
 ·rename_i hu
  cases x<;>simp only[b7Z]at h<;>try (cases h;done)
  cases h
  simp only[Rp]at hx
  subst hx
  exact go (by simp only[a6Y,hu]) rfl
 ·rename_i kt e hu
  unfold c4O at h
  split at h
  ·rename_i rows hent
   cases h
   obtain⟨es,h1,h2⟩:=c0t hC hx hent
   refine⟨.int .i64 rows.length,by simp only[Rp],fun H hA=> ?_⟩
   have hm:a8z P t=true:=by unfold a8z;rw[hu]
   rw[hm,if_pos rfl]at hA
   have he:=h2 H hA
   have hl:=b8Z h1
   cases x<;>simp only[b7O]at hent<;>try (cases hent;done)
   ·simp only[Rp]at hx
    subst hx
    cases he
    rw[←hl]
    simp only[b8k,a6Y,hu,a0j]
    rfl
   ·simp only[Rp]at hx
    subst hx
    simp only[a0x]at he
    split at he
    ·rename_i es' cl hg
     cases he
     simp only[b8k,a6Y,hu,a0j,hg, ←hl]
     rfl
    ·cases he
  ·cases h
 ·rename_i e hu
  cases x<;>simp only[m8]at h<;>try (cases h;done)
  all_goals
   cases h
   simp only[Rp]at hx
  ·subst hx;exact go (n:=0) (by simp only[a6Y,hu]) rfl
  ·rcases hx with ⟨rfl,rfl⟩|⟨o,j,cap,ex,z',rfl,_⟩
   ·exact go (n:=0) (by simp only[a6Y,hu]) rfl
   ·exact go (by simp only[a6Y,hu]) rfl
  ·obtain⟨o,j,cap,ex,z',all,rfl,_⟩:=hx;exact go (by simp only[a6Y,hu]) rfl
  ·obtain⟨_,rfl⟩:=hx;exact go (by simp only[a6Y,hu]) rfl
 ·rename_i n e hu
  cases h
  exact go (by simp only[a6Y,hu]) rfl
 ·cases h
theorem c3w{t:TypeId}{x:D}{v:AV}(hx:Rp E R x v){d:D}(h:c3O P t x=some d):∃y,Rp E R d y∧((b4n P t v).map fun(n:Nat)=>AV.int .i64 n)=some y:=by
 unfold c3O at h
 split at h
 ·rename_i e hu
  cases x<;>simp only[c2L]at h<;>try (cases h;done)
  ·cases h
   simp only[Rp]at hx
   subst hx
   exact⟨.int .i64 (0:Nat),by simp only[Rp];rfl,by simp only[b4n,hu];rfl⟩
  ·rename_i k i len cap ex z
   cases ex<;>simp only at h<;>try (cases h;done)
   cases h
   simp only[Rp]at hx
   obtain⟨_,rfl⟩:=hx
   exact⟨.int .i64 cap,by simp only[Rp],by simp only[b4n,hu];rfl⟩
 ·rename_i n e hu
  cases h
  exact⟨.int .i64 n,by simp only[Rp],by simp only[b4n,hu];rfl⟩
 ·cases h
theorem b8F{m:Bool}:∀ {l:List D} {vs:List AV} {x:D} {v:AV} {d:D},Rp E R x v→o6 E R l vs→l.foldlM (mmD m) x=some d→∃y,Rp E R d y∧vs.foldlM (fun x y=>match x,y with
  | .int k a, .int _ b=>some (AV.int k (if m then(if b>a then b else a) else(if b<a then b else a)))
  |_,_=>none) v=some y
 | [],vs,x,v,d,hx,hl,h=>by
  simp only[o6]at hl
  subst hl
  cases h
  exact⟨v,hx,rfl⟩
 |a::l,vs,x,v,d,hx,hl,h=>by
  simp only[o6]at hl
  obtain⟨w,ws,rfl,h1,h2⟩:=hl
  simp only[List.foldlM_cons,Option.bind_eq_bind]at h ⊢
  cases x<;>simp only[mmD,Option.bind_none]at h<;>try (cases h;done)
  cases a<;>simp only[Option.bind_none]at h<;>try (cases h;done)
  simp only[Option.bind_some]at h
  simp only[Rp]at hx h1
  subst hx h1
  exact b8F (by simp only[Rp]) h2 h
theorem b4e{m:Bool}{l:List D}{vs:List AV}(hl:o6 E R l vs){d:D}(h:a7z m l=some d):∃y,Rp E R d y∧a0r m vs=some y:=by
 cases l with
 |nil=>cases h
 |cons x l=>
  simp only[o6]at hl
  obtain⟨v,ws,rfl,h1,h2⟩:=hl
  exact b8F h1 h2 h
theorem c1o{t:TypeId}{x:D}{v:AV}(hx:Rp E R x v){d:D}(h:b8b P t x=some d):∃y,Rp E R d y∧b5j P t v=some y:=by
 unfold b8b at h
 unfold b5j
 split at h
 ·cases h
 ·rename_i u hn hu
  cases h
  rw[hu]
  refine⟨.ifc t v,by simp only[Rp];exact⟨v,rfl,hx⟩, ?_⟩
  split
  ·rename_i e h1;cases h1;exact(hn _ rfl).elim
  ·rfl
  ·rename_i h1;cases h1
 ·cases h
theorem c0h{x:D}{v:AV}(hx:Rp E R x v){t:TypeId}{ok:Bool}{d:D}(h:b5c P x t ok=some d):∃y,Rp E R d y∧a3C P v t ok=some y:=by
 unfold b5c at h
 split at h
 ·cases h
 ·rename_i u hn hu
  split at h
  ·rename_i z hz
   have fails:ok=true→d= .tup [b5O z, .bool false]→∃y,Rp E R d y∧(if ok=true then(C7 P t).map fun z=>AV.tup [z, .bool false]else none)=some y:=by
    intro hok hd
    subst hd
    refine⟨.tup [z, .bool false], ?_,by rw[if_pos hok,hz];rfl⟩
    simp only[Rp]
    exact⟨_,rfl,m6 a5r (m6 (by simp only[Rp]) u5)⟩
   unfold a3C
   rw[hu]
   split
   ·rename_i e h1;cases h1;exact(hn _ rfl).elim
   ·cases x<;>simp only[asD]at h<;>try (cases h;done)
    ·split at h
     ·rename_i hok
      cases h
      simp only[Rp]at hx
      subst hx
      exact fails hok rfl
     ·cases h
    ·rename_i t' d'
     simp only[Rp]at hx
     obtain⟨v',rfl,hv⟩:=hx
     split at h
     ·rename_i ht
      cases h
      simp only[if_pos ht]
      cases ok with
      |true=>
       refine⟨.tup [v', .bool true], ?_,rfl⟩
       simp only[if_true,Rp]
       exact⟨_,rfl,m6 hv (m6 (by simp only[Rp]) u5)⟩
      |false=>exact⟨v',by simpa using hv,rfl⟩
     ·rename_i ht
      split at h
      ·rename_i hok
       cases h
       simp only[if_neg ht]
       exact fails hok rfl
      ·cases h
   ·rename_i h1;cases h1
  ·cases h
 ·cases h
theorem W6:∀ {ds:List D} {vs:List AV} {cs:List D} {ws:List AV} {i:Nat},o6 E R cs ws→o6 E R ds vs→o6 E R (o3 cs i ds) (r5 ws i vs)
 | [],vs,cs,ws,i,h,hd=>by simp only[o6]at hd;subst hd;exact h
 |d::ds,vs,cs,ws,i,h,hd=>by
  simp only[o6]at hd
  obtain⟨v,vs,rfl,h1,h2⟩:=hd
  show o6 E R (o3 (cs.set i d) (i+1) ds) (r5 (ws.set i v) (i+1) vs)
  exact W6 (h.set i h1) h2
theorem K7:∀(ds cs:List D) (i:Nat),(o3 cs i ds).length=cs.length
 | [],cs,i=>rfl
 |d::ds,cs,i=>by rw[o3,K7 ds,List.length_set]
theorem I6:∀ {vs ws:List AV} {i:Nat},ws.all j4=true→vs.all j4=true→(r5 ws i vs).all j4=true
 | [],ws,i,h,_=>h
 |v::vs,ws,i,h,hv=>by
  simp only[List.all_cons,Bool.and_eq_true]at hv
  show(r5 (ws.set i v) (i+1) vs).all j4=true
  refine I6 ?_ hv.2
  refine List.all_eq_true.2 fun x hx=> ?_
  rcases List.mem_or_eq_of_mem_set hx with hx|rfl
  ·exact List.all_eq_true.1 h x hx
  ·exact hv.1
def RpP(E:d6)(R:Fz):List (Nat×D)→List (Nat×AV)→Prop
 | [],l=>l=[]
 |(i,d)::ds,l=>∃v vs,l=(i,v)::vs∧Rp E R d v∧RpP E R ds vs
theorem b1B{T:List D}{avs:List AV}(h:o6 E R T avs):∀l:List (Nat×Operand),RpP E R (l.map fun p=>(p.1,k9 T p.2)) (l.map fun p=>(p.1,b8 avs p.2))
 | []=>rfl
 |(i,x)::l=>⟨_,_,rfl,i7 h x,b1B h l⟩
theorem b8A{place:Nat→Option (Nat×Nat)}:∀ {parts:List (Nat×D)} {ps:List (Nat×AV)} {cs:List D} {ws:List AV} {l:List (Nat×Nat×D)} {r:List D},RpP E R parts ps→o6 E R cs ws→ws.all j4=true→a5v place parts=some l→r9 cs l=some r→
  ∃us,o6 E R r us∧us.all j4=true∧us.length=ws.length∧a3h place ws ps=some us
 | [],ps,cs,ws,l,r,hp,hc,hs,h1,h2=>by
  have hp':ps=[]:=hp
  subst hp'
  cases h1
  cases h2
  exact⟨ws,hc,hs,rfl,rfl⟩
 |(i,d)::parts,ps,cs,ws,l,r,hp,hc,hs,h1,h2=>by
  obtain⟨v,vs,rfl,hd,hp⟩:=hp
  simp only[a5v]at h1
  split at h1
  ·rename_i off size hpl
   split at h1
   ·rename_i l' hl'
    cases h1
    simp only[r9]at h2
    split at h2
    ·rename_i ds hds
     split at h2
     ·rename_i hsz
      obtain⟨g1,g2⟩:=a5k hd hds
      obtain⟨us,k1,k2,k3,k4⟩:=b8A hp (W6 (i:=off) hc g1) (I6 hs g2) hl' h2
      refine⟨us,k1,k2,by rw[k3,a5c], ?_⟩
      simp only[a3h,hpl]
      rw[if_pos,k4]
      rw[g1.length, ←hc.length]at*
      exact⟨hsz.1,by omega⟩
     ·cases h2
    ·cases h2
   ·cases h1
  ·cases h1
theorem c3z{r:Option (List D)}{d:D}(h:C9 r=some d):∃cs,r=some cs∧d= .agg cs:=by
 cases r with
 |none=>cases h
 |some cs=>cases h;exact⟨cs,rfl,rfl⟩
theorem c0H{t:TypeId}{parts:List (Nat×D)}{ps:List (Nat×AV)}(hp:RpP E R parts ps){d:D}(h:b7R P t parts=some d):∃y,Rp E R d y∧a4s P t ps=some y:=by
 unfold b7R at h
 split at h
 ·rename_i z hz
  split at h
  ·rename_i hsc
   have fin:∀ {place:Nat→Option (Nat×Nat)} {l:List (Nat×Nat×D)},a5v place parts=some l→C9 (r9 (z.map P8) l)=some d→∃y,Rp E R d y∧(a3h place (AV.agg z).cells ps).map AV.agg=some y:=by
    intro place l h1 h2
    obtain⟨cs,e1,rfl⟩:=c3z h2
    obtain⟨us,k1,k2,k3,k4⟩:=b8A hp (a9D z) hsc h1 e1
    refine⟨.agg us,by simp only[Rp];exact⟨us,rfl,k1,k2⟩, ?_⟩
    show(a3h place z ps).map AV.agg=_
    rw[k4];rfl
   split at h
   ·rename_i fields hu
    split at h
    ·rename_i places hpl
     split at h
     ·rename_i l hl
      obtain⟨y,e1,e2⟩:=fin hl h
      refine⟨y,e1, ?_⟩
      simp only[a4s,hz,hu,hpl,Option.bind_eq_bind,Option.bind_some]
      exact e2
     ·cases h
    ·cases h
   ·rename_i n e hu
    split at h
    ·rename_i size hs
     split at h
     ·rename_i l hl
      obtain⟨y,e1,e2⟩:=fin hl h
      refine⟨y,e1, ?_⟩
      simp only[a4s,hz,hu,hs,Option.bind_eq_bind,Option.bind_some]
      exact e2
     ·cases h
    ·cases h
   ·cases h
  ·cases h
 ·cases h
theorem b3z(hC:n9 E R S H0){sz:Nat}{x:D}{v:AV}(hx:Rp E R x v){rows:List (List D)}(h:F4 S sz x=some rows):
  (∀row∈rows,row.length=sz)∧Z6 v=some rows.length∧∃cs,o6 E R rows.flatten cs∧cs.all j4=true∧∀H,Agr R S (a7M x) H→M0 E H sz rows.length v=some cs∧(∀o i len cap ex z,v= .slc o i len cap ex z→B9 E H o i (len*sz)=some cs):=by
 cases x<;>simp only[F4]at h<;>try (cases h;done)
 ·cases h
  simp only[Rp]at hx
  subst hx
  exact⟨fun row hr=>(by cases hr),rfl,[],u5,rfl,fun H _=>⟨rfl,fun _ _ _ _ _ _ e=>(by cases e)⟩⟩
 ·rename_i rows' z
  split at h
  ·rename_i hz
   cases h
   subst hz
   simp only[Rp]at hx
   rcases hx with ⟨rfl,rfl⟩|⟨o,j,cap,ex,z',rfl,f1,f2,f3,f4⟩
   ·exact⟨fun row hr=>(by cases hr),rfl,[],u5,rfl,fun H _=>⟨rfl,fun _ _ _ _ _ _ e=>(by cases e)⟩⟩
   refine⟨f3,rfl, ?_⟩
   rcases f4 with rfl|⟨all,k1,k2,k3⟩
   ·refine⟨[],u5,rfl,fun H _=>⟨?_,fun _ _ _ _ _ _ e=> ?_⟩⟩
    ·simp only[M0,B9,List.length_nil,Nat.zero_mul,if_true]
    ·cases e;simp only[B9,List.length_nil,Nat.zero_mul,if_true]
   ·have key:∀H,Agr R S (a7M (.lst rows z)) H→B9 E H o j (rows.length*z)=some ((all.drop j).take (rows.length*z)):=by
     intro H hA
     have hc:=a8Q k1 hA
     unfold B9
     split
     ·rename_i e0;rw[e0,List.take_zero]
     ·rename_i e0
      have hl:=(B6.1 k2).length
      rw[m7 f3,List.length_take,List.length_drop]at hl
      simp only[z7,hc]
      rw[if_pos (by omega)]
    exact⟨_,B6.1 k2,k3,fun H hA=>⟨key H hA,fun _ _ _ _ _ _ e=>by cases e;exact key H hA⟩⟩
  ·cases h
 ·rename_i rows' more z
  split at h
  ·rename_i hz
   cases h
   subst hz
   simp only[Rp]at hx
   obtain⟨o,j,cap,ex,z',all,rfl,f1,f2,f3,f4,k1,k2,f7,k3⟩:=hx
   refine⟨f3,rfl, ?_⟩
   have hle':rows.length*z≤(rows.length+more.length)*z:=Nat.mul_le_mul_right _ (by omega)
   have k3':((all.drop j).take (rows.length*z)).all j4=true:=by
    have:=C8 k3 (rows.length*z)
    rw[List.take_take,Nat.min_eq_left hle']at this
    exact this
   have key:∀H,Agr R S (a7M (.ext rows more z)) H→B9 E H o j (rows.length*z)=some ((all.drop j).take (rows.length*z)):=by
    intro H hA
    unfold B9
    split
    ·rename_i e0;rw[e0,List.take_zero]
    ·rename_i e0
     have hc:=a8Q (k1.resolve_right fun h=>e0 (by rw[h.1];simp)) hA
     have hl:=(B6.1 k2).length
     rw[m7 f3,List.length_take,List.length_drop]at hl
     simp only[z7,hc]
     rw[if_pos (by omega)]
   exact⟨_,B6.1 k2,k3',fun H hA=>⟨key H hA,fun _ _ _ _ _ _ e=>by cases e;exact key H hA⟩⟩
  ·cases h
 ·rename_i k i len cap ex z
  cases hk:S k with
  |none=>rw[hk]at h;cases h
  |some o=>
   simp only[hk]at h
   split at h
   ·rename_i hz
    obtain⟨rfl,hsz,hlen⟩:=hz
    cases h
    simp only[Rp]at hx
    obtain⟨hmz,rfl⟩:=hx
    have hom:o.sz<D9:=by rw[hsz];exact hmz
    obtain⟨h1,⟨pre,h2⟩,h3,h4,h5⟩:=hC.cells hk (.inl hom)
    rw[hsz]at h4
    have hd:∀row∈o.rows.drop i,row.length=z:=fun row hr=>h4 row (List.mem_of_mem_drop hr)
    have hl:((o.rows.drop i).take len).length=len:=by rw[List.length_take,List.length_drop];omega
    have hll:=h5.length
    rw[m7 h4]at hll
    have hle:i*z+len*z≤o.acs.length:=by rw[hll, ←Nat.add_mul];exact Nat.mul_le_mul_right _ hlen
    refine⟨fun row hr=>hd row (List.mem_of_mem_take hr),by rw[hl];rfl,(o.acs.drop (i*z)).take (len*z), ?_,C8 (Q1 h3 _) _,fun H hA=> ?_⟩
    ·rw[←R7 hd, ←X1 h4]
     exact(h5.drop _).take _
    ·have key:B9 E H (.new k) (i*z) (len*z)=some ((o.acs.drop (i*z)).take (len*z)):=by
      obtain⟨w,p,g⟩:=hA.st k o rfl hk (.inl hom)
      exact b5P E g _ _ hle
     refine⟨by rw[hl];exact key,fun _ _ _ _ _ _ e=>by cases e;exact key⟩
   ·cases h
theorem b9c:∀ {rows:List (List D)} {bs:List UInt8} {cs:List AV},(∀row∈rows,row.length=1)→o6 E R rows.flatten cs→rows.mapM b4i=some bs→cs.mapM b4X=some bs
 | [],bs,cs,_,h,e=>by
  simp only[List.flatten_nil,o6]at h
  subst h
  exact e
 |row::rows,bs,cs,hl,h,e=>by
  rw[List.mapM_cons]at e
  cases hb:b4i row with
  |none=>rw[hb]at e;cases e
  |some b=>
   rw[hb]at e
   simp only[Option.bind_eq_bind,Option.bind_some]at e
   cases hm:rows.mapM b4i with
   |none=>rw[hm]at e;cases e
   |some l=>
    rw[hm]at e
    cases e
    unfold b4i at hb
    split at hb
    ·rename_i n
     cases hb
     simp only[List.flatten_cons,List.cons_append,List.nil_append,o6]at h
     obtain⟨v,vs,rfl,h1,h2⟩:=h
     simp only[Rp]at h1
     subst h1
     have ih:=b9c (fun row hr=>hl row (List.mem_cons_of_mem _ hr)) h2 hm
     rw[List.mapM_cons,ih]
     rfl
    ·cases hb
theorem c2h(hC:n9 E R S H0){s t:TypeId}{x:D}{v:AV}(hx:Rp E R x v){d:D}(h:c1n P S s t x=some d):∃y,Rp E R d y∧∀H,Agr R S (a7M x) H→(E1 P E H s t v).map (·.1)=some y:=by
 unfold c1n at h
 split at h
 ·rename_i hu1 hu2
  cases x<;>simp only[V1]at h<;>try (cases h;done)
  cases h
  simp only[Rp]at hx
  subst hx
  rename_i k' n
  exact⟨.int _ (IntKind.wrap _ n),by simp only[Rp];rfl,fun H _=>by simp only[E1,hu1,hu2];rfl⟩
 ·rename_i hu1 hu2
  cases x<;>simp only[b4U]at h<;>try (cases h;done)
  cases h
  simp only[Rp]at hx
  subst hx
  rename_i s
  exact⟨.str s,by simp only[Rp],fun H _=>by simp only[E1,hu1,hu2];rfl⟩
 ·rename_i e hu1 hu2
  split at h
  ·rename_i hue
   unfold c1l at h
   split at h
   ·rename_i rows hrows
    obtain⟨g1,g2,cs,g3,g4,g5⟩:=b3z hC hx hrows
    cases hm:rows.mapM b4i with
    |none=>rw[hm]at h;cases h
    |some bs=>
     rw[hm]at h
     cases h
     have hb:=b9c g1 g3 hm
     refine⟨.str bs,by simp only[Rp],fun H hA=> ?_⟩
     obtain⟨k1,k2⟩:=g5 H hA
     cases v<;>simp only[Z6,Option.some.injEq]at g2<;>try (cases g2;done)
     ·
      cases x<;>simp only[F4]at hrows<;>try (cases hrows;done)
      ·simp only[Rp]at hx;cases hx
      ·simp only[Rp]at hx;rcases hx with ⟨_,hx⟩|⟨_,_,_,_,_,hx,_⟩<;>cases hx
      ·simp only[Rp]at hx;obtain⟨_,_,_,_,_,_,hx,_⟩:=hx;cases hx
      ·simp only[Rp]at hx;cases hx.2
     ·have hr:rows=[]:=List.length_eq_zero_iff.1 g2.symm
      subst hr
      cases hm
      simp only[E1,hu1,hu2,hue]
      rfl
     ·have:=k2 _ _ _ _ _ _ rfl
      rw[Nat.mul_one]at this
      simp only[E1,hu1,hu2,hue,this,hb]
      rfl
   ·cases h
  ·cases h
 ·cases h
theorem b4S{T:List D}{avs:List AV}(h:o6 E R T avs):∀x:Option Operand,RpO E R (x.map (k9 T)) (x.map (b8 avs))
 |none=>trivial
 |some x=>i7 h x
theorem c2n{T:List D}{avs:List AV}(hT:o6 E R T avs)(hC:n9 E R S H0){o:Oper}{d:D}(h:c3b P T S o=some d):
  ∃v,Rp E R d v∧∀H,Agr R S (a4u P T o) H→opV P E avs H o=some v:=by
 obtain⟨dst,op,type,pos,after,guard⟩:=o
 have plain:∀ {r:Option AV},(∃v,Rp E R d v∧r=some v)→∃v,Rp E R d v∧∀H,Agr R S (a4u P T ⟨dst,op,type,pos,after,guard⟩) H→r=some v:=fun⟨v,a,b⟩=>⟨v,a,fun _ _=>b⟩
 cases op<;>simp only[c3b]at h<;>try (cases h;done)
 case move x=>cases h;exact⟨_,i7 hT x,fun _ _=>rfl⟩
 case assign x=>cases h;exact⟨_,i7 hT x,fun _ _=>rfl⟩
 case pick c a b=>exact plain (c1X (i7 hT c) (i7 hT a) (i7 hT b) h)
 case build t parts=>exact plain (c0H (b1B hT _) h)
 case load t a=>
  obtain⟨v,h1,h2⟩:=b8z hC (i7 hT a) h
  exact⟨v,h1,fun H hA=>h2 H hA⟩
 case nilCheck x=>
  obtain⟨h1,h2⟩:=c3t (i7 hT x) h
  exact⟨_,h1,fun _ _=>h2⟩
 case binOp op t x y yt=>exact plain (c3j (i7 hT x) (i7 hT y) h)
 case unOp op t x=>exact plain (c4H (i7 hT x) h)
 case convert s t x=>
  obtain⟨v,h1,h2⟩:=c2h hC (i7 hT x) h
  exact⟨v,h1,fun H hA=>h2 H hA⟩
 case makeInterface t x=>exact plain (c1o (i7 hT x) h)
 case makeFunc fn a b=>
  cases h
  refine⟨_, ?_,fun _ _=>rfl⟩
  simp only[Rp]
  exact⟨_,_,rfl,a1z hT _,a1z hT _⟩
 case slice t x lo hi mx=>
  obtain⟨v,h1,h2⟩:=c1J (i7 hT x) (b4S hT lo) (b4S hT hi) (b4S hT mx) h
  exact⟨v,h1,fun H _=>h2 H⟩
 case fieldAddr s x f=>exact plain (b8s (i7 hT x) h)
 case field s x f=>exact plain (c1r (i7 hT x) h)
 case indexAddr t x ix=>exact plain (b8r (i7 hT x) (i7 hT ix) h)
 case index t x ix=>exact plain (b6a (i7 hT x) (i7 hT ix) h)
 case lookup t x ix ok=>
  obtain⟨y,h1,h2⟩:=b9B hC (i7 hT x) (i7 hT ix) h
  exact⟨y,h1,fun H hA=>h2 H hA⟩
 case typeAssert x a t ok=>exact plain (c0h (i7 hT x) h)
 case extract t ix=>exact plain (b7P (i7 hT t) h)
 case call c=>
  cases hc:c.callee with
  |value f=>rw[hc]at h;cases h
  |invoke r m=>rw[hc]at h;cases h
  |builtin b=>
   simp only[hc]at h
   have ha:=a1z hT c.args.toList
   simp only[opV,hc]
   generalize hds:c.args.toList.map (k9 T)=ds at h ha
   generalize c.args.toList.map (b8 avs)=vs at ha
   generalize hts:c.argTypes.toList=ts at h
   cases b<;>(try simp only at h)<;>try (cases h;done)
   case len=>
    rcases ds with _|⟨x,_|⟨y,ds⟩⟩<;>(try simp only at h)<;>try (cases h;done)
    rcases ts with _|⟨t,_|⟨u,ts⟩⟩<;>(try simp only at h)<;>try (cases h;done)
    simp only[o6]at ha
    obtain⟨v,vs,rfl,h1,rfl⟩:=ha
    obtain⟨y,g1,g2⟩:=c3p hC h1 h
    refine⟨y,g1,fun H hA=>g2 H ?_⟩
    have e:a4u P T ⟨dst, .call c,type,pos,after,guard⟩=if a8z P t then a7Q x else none:=by
     simp only[a4u,c2a,b2w,hc,hts,hds]
    rw[e]at hA
    exact hA
   case cap=>
    rcases ds with _|⟨x,_|⟨y,ds⟩⟩<;>(try simp only at h)<;>try (cases h;done)
    rcases ts with _|⟨t,_|⟨u,ts⟩⟩<;>(try simp only at h)<;>try (cases h;done)
    simp only[o6]at ha
    obtain⟨v,vs,rfl,h1,rfl⟩:=ha
    obtain⟨y,g1,g2⟩:=c3w h1 h
    exact⟨y,g1,fun H _=>g2⟩
   case min=>
    obtain⟨y,g1,g2⟩:=b4e ha h
    exact⟨y,g1,fun H _=>g2⟩
   case max=>
    obtain⟨y,g1,g2⟩:=b4e ha h
    exact⟨y,g1,fun H _=>g2⟩
end
end Go.Am
end
