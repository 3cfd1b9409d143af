/-
  ImageBackSaid: part Kao of its proof.
-/
import Derived.Test.YtchnpgddpaonhaaKan
set_option linter.unusedVariables false
set_option linter.unusedSimpArgs false
set_option maxRecDepth 100000
section
namespace Go.Am
section
variable{P:Program}{E:m7}{R:Fz}{S:b7}{H0:AHeap}
theorem a1W{x:D}{v:AV}(h:Rp E R x v){y n:Nat}(hb:E3 x y=some n):a0h v y=some n∧n≤y:=by
 cases x<;>simp only[E3]at hb<;>try (cases hb;done)
 simp only[Rp]at h
 subst h
 split at hb
 ·rename_i hn
  cases hb
  exact⟨by simp only[a0h];rw[if_pos hn],by omega⟩
 ·cases hb
def RpO(E:m7)(R:Fz):Option D→Option AV→Prop
 |none,none=>True
 |some d,some v=>Rp E R d v
 |_,_=>False
theorem a8v{lo hi mx:Option D}{vlo vhi vmx:Option AV}(h1:RpO E R lo vlo)(h2:RpO E R hi vhi)(h3:RpO E R mx vmx){len cap cap' l h m:Nat}(hlc:len≤cap)
  (e:N4 len cap lo hi mx=some (l,h,m)) (hc:cap≤cap') (hx:mx=none→hi=none∨True):
  ∃m',a4s len cap' vlo vhi vmx=some (l,h,m')∧l≤h∧h≤cap∧h≤m'∧(m'=m∨(mx=none∧m'=cap'∧m=cap)):=by
 unfold N4 at e
 cases ht:c4G cap mx with
 |none=>rw[ht]at e;cases e
 |some m0=>
  rw[ht,Option.bind_some]at e
  cases hh:b2e len m0 hi mx with
  |none=>rw[hh]at e;cases e
  |some h0=>
   rw[hh,Option.bind_some]at e
   cases hl:b9j h0 lo with
   |none=>rw[hl]at e;cases e
   |some l0=>
    rw[hl,Option.bind_some]at e
    cases e
    have low:c8F h vlo=some l∧l≤h:=by
     cases lo with
     |none=>
      cases vlo with
      |none=>cases hl;exact⟨rfl,Nat.zero_le _⟩
      |some v=>exact h1.elim
     |some d=>
      cases vlo with
      |none=>exact h1.elim
      |some v=>exact a1W h1 hl
    cases mx with
    |none=>
     cases vmx with
     |some v=>exact h3.elim
     |none=>
      cases ht
      have high:b4c len cap' vhi none=some h∧h≤cap:=by
       cases hi with
       |none=>
        cases vhi with
        |some v=>exact h2.elim
        |none=>cases hh;exact⟨rfl,hlc⟩
       |some d=>
        cases vhi with
        |none=>exact h2.elim
        |some v=>
         have hh':E3 d cap=some h:=hh
         obtain⟨a,b⟩:=a1W h2 hh'
         refine⟨?_,b⟩
         show a0h v cap'=some h
         cases v<;>simp only[a0h]at a ⊢ <;>try (cases a;done)
         split at a
         ·cases a;rw[if_pos (by omega)]
         ·cases a
      refine⟨cap', ?_,low.2,high.2,by omega, .inr ⟨rfl,rfl,rfl⟩⟩
      simp only[a4s,c5Y,Option.bind_some,high.1,low.1]
    |some dm=>
     cases vmx with
     |none=>exact h3.elim
     |some vm=>
      have ht':E3 dm cap=some m:=ht
      obtain⟨a,b⟩:=a1W h3 ht'
      have a':a0h vm cap'=some m:=by
       cases vm<;>simp only[a0h]at a ⊢ <;>try (cases a;done)
       split at a
       ·cases a;rw[if_pos (by omega)]
       ·cases a
      cases hi with
      |none=>cases hh
      |some d=>
       cases vhi with
       |none=>exact h2.elim
       |some v=>
        obtain⟨c,d'⟩:=a1W h2 (show E3 d m=some h from hh)
        refine⟨m, ?_,low.2,by omega,d', .inl rfl⟩
        show(c5Y cap' (some vm)).bind _=_
        rw[show c5Y cap' (some vm)=some m from a',Option.bind_some,show b4c len m (some v) (some vm)=some h from c,Option.bind_some,low.1,Option.bind_some]
theorem c1V{lo hi mx:Option D}{len cap l h m:Nat}(e:N4 len cap lo hi mx=some (l,h,m)):m≤cap:=by
 unfold N4 at e
 cases ht:c4G cap mx with
 |none=>rw[ht]at e;cases e
 |some m0=>
  rw[ht,Option.bind_some]at e
  have hm:m0≤cap:=by
   cases mx with
   |none=>cases ht;exact Nat.le_refl _
   |some d=>
    replace ht:E3 d cap=some m0:=ht
    unfold E3 at ht
    split at ht
    ·split at ht
     ·cases ht;omega
     ·cases ht
    ·cases ht
  cases hh:b2e len m0 hi mx with
  |none=>rw[hh]at e;cases e
  |some h0=>
   rw[hh,Option.bind_some]at e
   cases hl:b9j h0 lo with
   |none=>rw[hl]at e;cases e
   |some l0=>rw[hl,Option.bind_some]at e;cases e;exact hm
theorem b7p{rows:List (List D)}{sz:Nat}(h:∀row∈rows,row.length=sz){all:List AV}{j:Nat}(hr:a2K E R rows ((all.drop j).take (rows.length*sz)))(hs:((all.drop j).take (rows.length*sz)).all w9=true)(l n:Nat)(hn:l+n≤rows.length):
  a2K E R ((rows.drop l).take n) ((all.drop (j+l*sz)).take (((rows.drop l).take n).length*sz))∧((all.drop (j+l*sz)).take (((rows.drop l).take n).length*sz)).all w9=true:=by
 have hlen:((rows.drop l).take n).length=n:=by rw[List.length_take,List.length_drop];omega
 have hle:l*sz+n*sz≤rows.length*sz:=by rw[←Nat.add_mul];exact Nat.mul_le_mul_right _ hn
 have e:(all.drop (j+l*sz)).take (n*sz)=(((all.drop j).take (rows.length*sz)).drop (l*sz)).take (n*sz):=a8y hle
 have hd:∀row∈rows.drop l,row.length=sz:=fun row hx=>h row (List.mem_of_mem_drop hx)
 rw[hlen,e]
 refine⟨?_,P4 (a1T hs _) _⟩
 rw[P2, ←a3N hd, ←a5L h]
 exact((P2.1 hr).drop _).take _
theorem c9r{rows:List (List D)}{sz:Nat}(h:∀row∈rows,row.length=sz){o:Id}{all:List AV}{j z:Nat}(ho:rdE E R o=some all)(hf:d1z o z sz)(hr:a2K E R rows ((all.drop j).take (rows.length*sz)))(hs:((all.drop j).take (rows.length*sz)).all w9=true)
  {l hh m m':Nat} (h1:l≤hh) (h2:hh≤m) (h3:m≤rows.length) (h4:m≤m') (ex:Bool):
  Rp E R (c0e ((rows.drop l).take (hh - l)) ((rows.drop hh).take (m - hh)) sz) (.slc o (j+l*sz) (hh - l) (m' - l) ex z):=by
 have hl':((rows.drop l).take (hh - l)).length=hh - l:=by rw[List.length_take,List.length_drop];omega
 have hm':((rows.drop hh).take (m - hh)).length=m - hh:=by rw[List.length_take,List.length_drop];omega
 have hrl:∀row∈(rows.drop l).take (hh - l),row.length=sz:=fun row hr=>h row (List.mem_of_mem_drop (List.mem_of_mem_take hr))
 have hrm:∀row∈(rows.drop hh).take (m - hh),row.length=sz:=fun row hr=>h row (List.mem_of_mem_drop (List.mem_of_mem_take hr))
 have p1:=b7p h hr hs l (hh - l) (by omega)
 have p2:=b7p h hr hs hh (m - hh) (by omega)
 have p3:=b7p h hr hs l (m - l) (by omega)
 unfold c0e
 split
 ·simp only[Rp]
  exact .inr ⟨o,j+l*sz,m' - l,ex,z,by rw[hl'],hf,by rw[hl'];omega,hrl, .inr ⟨all,ho,p1⟩⟩
 ·skip
  simp only[Rp]
  refine⟨o,j+l*sz,m' - l,ex,z,all,by rw[hl'],hf,by rw[hl',hm'];omega,hrl,hrm, .inl ho,p1.1, ?_, ?_⟩
  ·have e:j+l*sz+((rows.drop l).take (hh - l)).length*sz=j+hh*sz:=by rw[hl',Nat.add_assoc, ←Nat.add_mul];congr 2;omega
   rw[e];exact p2.1
  ·have e:((rows.drop l).take (hh - l)).length+((rows.drop hh).take (m - hh)).length=((rows.drop l).take (m - l)).length:=by
    rw[hl',hm',List.length_take,List.length_drop];omega
   rw[e];exact p3.2
theorem d1t{rows more:List (List D)}{sz:Nat}{all:List AV}{j:Nat}(h1:a2K E R rows ((all.drop j).take (rows.length*sz)))(h2:a2K E R more ((all.drop (j+rows.length*sz)).take (more.length*sz))):a2K E R (rows++more) ((all.drop j).take ((rows++more).length*sz)):=by
 rw[P2]at*
 rw[List.flatten_append,List.length_append,Nat.add_mul,List.take_add]
 refine h1.append ?_
 rw[List.drop_drop]
 exact h2
theorem d1H{t:TypeId}{x:D}{v:AV}(hx:Rp E R x v){lo hi mx:Option D}{vlo vhi vmx:Option AV}(h1:RpO E R lo vlo)(h2:RpO E R hi vhi)(h3:RpO E R mx vmx){d:D}(h:c8U P t x lo hi mx=some d):
  ∃y,Rp E R d y∧∀H,a2t P H t v vlo vhi vmx=some y:=by
 unfold c8U at h
 split at h
 ·rename_i hu
  cases mx with
  |some m=>cases h
  |none=>
   cases vmx with
   |some m=>exact h3.elim
   |none=>
    cases x<;>simp only[c1r]at h<;>try (cases h;done)
    rename_i s
    simp only[Rp]at hx
    subst hx
    cases hb:N4 s.length s.length lo hi none with
    |none=>rw[hb]at h;cases h
    |some r=>
     obtain⟨l,hh,m⟩:=r
     rw[hb]at h
     cases h
     obtain⟨m',e,_⟩:=a8v h1 h2 h3 (Nat.le_refl _) hb (Nat.le_refl _) (fun _=> .inr trivial)
     refine⟨.str ((s.drop l).take (hh - l)),by simp only[Rp],fun H=> ?_⟩
     simp only[a2t,hu,e,Option.isSome_none,Bool.false_eq_true,if_false,Option.bind_eq_bind,Option.bind_some]
 ·rename_i el hu
  split at h
  ·rename_i sz hsz
   cases x<;>simp only[X7]at h<;>try (cases h;done)
   ·
    simp only[Rp]at hx
    subst hx
    cases hb:N4 0 0 lo hi mx with
    |none=>rw[hb]at h;cases h
    |some r=>
     obtain⟨l,hh,m⟩:=r
     rw[hb]at h
     cases h
     obtain⟨m',e,_⟩:=a8v h1 h2 h3 (Nat.le_refl _) hb (Nat.le_refl _) (fun _=> .inr trivial)
     refine⟨.nilSlc,by simp only[Rp],fun H=> ?_⟩
     simp only[a2t,hu,hsz,e,Option.bind_eq_bind,Option.bind_some]
   ·
    rename_i rows z
    split at h
    ·rename_i hz
     subst hz
     simp only[Rp]at hx
     rcases hx with ⟨rfl,rfl⟩|⟨o,j,cap,ex,z',rfl,f1,f2,f3,f4⟩
     ·cases hb:N4 0 0 lo hi mx with
      |none=>simp only[List.length_nil,hb]at h;cases h
      |some r=>
       obtain⟨l,hh,m⟩:=r
       simp only[List.length_nil,hb,Option.map_some,List.drop_nil,List.take_nil,c0e]at h
       cases h
       obtain⟨m',e,_⟩:=a8v h1 h2 h3 (Nat.le_refl _) hb (Nat.le_refl _) (fun _=> .inr trivial)
       refine⟨.nilSlc,by simp only[Rp];exact .inl ⟨by trivial,by trivial⟩,fun H=> ?_⟩
       simp only[a2t,hu,hsz,e,Option.bind_eq_bind,Option.bind_some]
     cases hb:N4 rows.length rows.length lo hi mx with
     |none=>rw[hb]at h;cases h
     |some r=>
      obtain⟨l,hh,m⟩:=r
      rw[hb]at h
      cases h
      obtain⟨m',e,g1,g2,g3,g4⟩:=a8v h1 h2 h3 (Nat.le_refl _) hb f2 (fun _=> .inr trivial)
      have hf:a6T o z' z=true:=by
       cases o with
       |old b=>rfl
       |new k=>have:z'=z:=f1;simp[a6T,this]
      have hm:m≤rows.length∧hh≤m∧m≤m':=by
       have:=c1V hb
       rcases g4 with g4|⟨_,g4,g5⟩<;>omega
      refine⟨.slc o (j+l*z) (hh - l) (m' - l) (ex||vmx.isSome) z', ?_,fun H=> ?_⟩
      ·rcases f4 with rfl|⟨all,k1,k2,k3⟩
       ·simp only[List.drop_nil,List.take_nil,c0e,Rp]
        have:hh=0:=by simpa using g2
        exact .inr ⟨o,j+l*z,m' - l,ex||vmx.isSome,z',by simp[this],f1,Nat.zero_le _,fun row hr=>(by cases hr), .inl (by trivial)⟩
       ·exact c9r f3 k1 f1 k2 k3 g1 hm.2.1 hm.1 hm.2.2 _
      ·simp only[a2t,hu,hsz,e,Option.bind_eq_bind,Option.bind_some,hf,if_true]
    ·cases h
   ·
    rename_i rows more z
    split at h
    ·rename_i hz
     subst hz
     simp only[Rp]at hx
     obtain⟨o,j,cap,ex,z',all,rfl,f1,f2,f3,f4,f5,f6,f7,f8⟩:=hx
     cases hb:N4 rows.length (rows++more).length lo hi mx with
     |none=>rw[hb]at h;cases h
     |some r=>
      obtain⟨l,hh,m⟩:=r
      rw[hb]at h
      cases h
      obtain⟨m',e,g1,g2,g3,g4⟩:=a8v h1 h2 h3 (cap:=(rows++more).length) (by rw[List.length_append];omega) hb (cap':=cap) (by rw[List.length_append];omega) (fun _=> .inr trivial)
      have hf:a6T o z' z=true:=by
       cases o with
       |old b=>rfl
       |new k=>have:z'=z:=f1;simp[a6T,this]
      have hm:m≤(rows++more).length∧hh≤m∧m≤m':=by
       have:=c1V hb
       rw[List.length_append]at*
       rcases g4 with g4|⟨_,g4,g5⟩<;>omega
      refine⟨.slc o (j+l*z) (hh - l) (m' - l) (ex||vmx.isSome) z', ?_,fun H=> ?_⟩
      ·rcases f5 with f5|⟨rfl,rfl⟩
       rotate_left
       ·simp only[List.append_nil,List.drop_nil,List.take_nil,List.length_nil]at hm ⊢
        show Rp E R (.lst [] z) _
        simp only[Rp]
        have e0:hh - l=0:=by omega
        exact .inr ⟨o,j+l*z,m' - l,ex||vmx.isSome,z',by rw[e0];rfl,f1,Nat.zero_le _,fun row hr=>(by cases hr), .inl trivial⟩
       refine c9r (rows:=rows++more) (fun row hr=>(List.mem_append.1 hr).elim (f3 row) (f4 row)) f5 f1 (d1t f6 f7) ?_ g1 hm.2.1 hm.1 hm.2.2 _
       rw[List.length_append];exact f8
      ·simp only[a2t,hu,hsz,e,Option.bind_eq_bind,Option.bind_some,hf,if_true]
    ·cases h
   ·
    rename_i k i len cap ex z
    split at h
    ·rename_i hz
     subst hz
     simp only[Rp]at hx
     subst hx
     cases hb:N4 len cap lo hi mx with
     |none=>rw[hb]at h;cases h
     |some r=>
      obtain⟨l,hh,m⟩:=r
      rw[hb]at h
      cases h
      have key:a4s len cap vlo vhi vmx=some (l,hh,m)∧(mx.isSome=vmx.isSome):=by
       refine⟨?_, ?_⟩
       ·unfold N4 at hb
        unfold a4s
        cases mx with
        |none=>
         cases vmx with
         |some v=>exact h3.elim
         |none=>
          rw[show c4G cap none=some cap from rfl,Option.bind_some]at hb
          rw[show c5Y cap none=some cap from rfl,Option.bind_some]
          cases hi with
          |none=>
           cases vhi with
           |some v=>exact h2.elim
           |none=>
            rw[show b2e len cap none none=some len from rfl,Option.bind_some]at hb
            rw[show b4c len cap none none=some len from rfl,Option.bind_some]
            cases lo with
            |none=>
             cases vlo with
             |some v=>exact h1.elim
             |none=>exact hb
            |some dl=>
             cases vlo with
             |none=>exact h1.elim
             |some v=>
              cases hq:E3 dl len with
              |none=>rw[show b9j len (some dl)=E3 dl len from rfl,hq]at hb;cases hb
              |some q=>
               rw[show b9j len (some dl)=E3 dl len from rfl,hq]at hb
               rw[show c8F len (some v)=a0h v len from rfl,(a1W h1 hq).1]
               exact hb
          |some dh=>
           cases vhi with
           |none=>exact h2.elim
           |some vh=>
            cases hq:E3 dh cap with
            |none=>rw[show b2e len cap (some dh) none=E3 dh cap from rfl,hq]at hb;cases hb
            |some q=>
             rw[show b2e len cap (some dh) none=E3 dh cap from rfl,hq,Option.bind_some]at hb
             rw[show b4c len cap (some vh) none=a0h vh cap from rfl,(a1W h2 hq).1,Option.bind_some]
             cases lo with
             |none=>
              cases vlo with
              |some v=>exact h1.elim
              |none=>exact hb
             |some dl=>
              cases vlo with
              |none=>exact h1.elim
              |some v=>
               cases hq2:E3 dl q with
               |none=>rw[show b9j q (some dl)=E3 dl q from rfl,hq2]at hb;cases hb
               |some q2=>
                rw[show b9j q (some dl)=E3 dl q from rfl,hq2]at hb
                rw[show c8F q (some v)=a0h v q from rfl,(a1W h1 hq2).1]
                exact hb
        |some dm=>
         cases vmx with
         |none=>exact h3.elim
         |some vm=>
          cases hqm:E3 dm cap with
          |none=>rw[show c4G cap (some dm)=E3 dm cap from rfl,hqm]at hb;cases hb
          |some qm=>
           rw[show c4G cap (some dm)=E3 dm cap from rfl,hqm,Option.bind_some]at hb
           rw[show c5Y cap (some vm)=a0h vm cap from rfl,(a1W h3 hqm).1,Option.bind_some]
           cases hi with
           |none=>cases hb
           |some dh=>
            cases vhi with
            |none=>exact h2.elim
            |some vh=>
             cases hq:E3 dh qm with
             |none=>rw[show b2e len qm (some dh) (some dm)=E3 dh qm from rfl,hq]at hb;cases hb
             |some q=>
              rw[show b2e len qm (some dh) (some dm)=E3 dh qm from rfl,hq,Option.bind_some]at hb
              rw[show b4c len qm (some vh) (some vm)=a0h vh qm from rfl,(a1W h2 hq).1,Option.bind_some]
              cases lo with
              |none=>
               cases vlo with
               |some v=>exact h1.elim
               |none=>exact hb
              |some dl=>
               cases vlo with
               |none=>exact h1.elim
               |some v=>
                cases hq2:E3 dl q with
                |none=>rw[show b9j q (some dl)=E3 dl q from rfl,hq2]at hb;cases hb
                |some q2=>
                 rw[show b9j q (some dl)=E3 dl q from rfl,hq2]at hb
                 rw[show c8F q (some v)=a0h v q from rfl,(a1W h1 hq2).1]
                 exact hb
       ·cases mx<;>cases vmx<;>first|rfl|exact h3.elim
      refine⟨.slc (.new k) (i*z+l*z) (hh - l) (m - l) (ex||vmx.isSome) z, ?_,fun H=> ?_⟩
      ·simp only[Rp]
       rw[key.2,Nat.add_mul]
      ·simp only[a2t,hu,hsz,key.1,Option.bind_eq_bind,Option.bind_some,a6T,beq_self_eq_true,if_true]
    ·cases h
  ·cases h
 ·cases h
theorem d1Z{x:D}{v:AV}(hx:Rp E R x v){off:Nat}{d:D}(h:m6 off x=some d):∃o i,v= .ptr o i∧Rp E R d (.ptr o (i+off)):=by
 cases x<;>simp only[m6]at h<;>try (cases h;done)
 all_goals
  cases h
  simp only[Rp]at hx ⊢
 ·subst hx;exact⟨_,_,rfl,rfl⟩
 ·subst hx;exact⟨_,_,rfl,by rw[Nat.add_assoc]⟩
 ·obtain⟨o,j,all,rfl,e2,e3⟩:=hx
  exact⟨_,_,rfl,o,j,all,by rw[Nat.add_assoc],e2,e3⟩
theorem c8V{s:TypeId}{x:D}{v:AV}(hx:Rp E R x v){f:Nat}{d:D}(h:c1G P s x f=some d):∃y,Rp E R d y∧a6q P s v f=some y:=by
 unfold c1G at h
 cases hf:a5G P s f with
 |none=>rw[hf]at h;cases h
 |some fl=>
  simp only[hf]at h
  split at h
  ·rename_i n hs
   obtain⟨o,i,rfl,h1⟩:=d1Z hx h
   refine⟨_,h1, ?_⟩
   simp only[a6q,hf,hs,Option.bind_eq_bind,Option.bind_some,Option.isSome_some,true_and]
   rw[if_pos (by simp)]
  ·cases h
theorem c9i{t:TypeId}{x:D}{v:AV}(hx:Rp E R x v){off:Nat}{d:D}(h:c7c P t off x=some d):∃cs y,v= .agg cs∧Rp E R d y∧b4h P t cs off=some y:=by
 unfold c7c at h
 cases hg:a9R P t with
 |none=>rw[hg]at h;cases h
 |some b=>
  simp only[hg]at h
  cases b with
  |true=>
   cases hs:D7 P t with
   |none=>rw[hs]at h;cases h
   |some n=>
    simp only[hs]at h
    cases x<;>simp only[c5t]at h<;>try (cases h;done)
    cases h
    simp only[Rp]at hx
    obtain⟨vs,rfl,h1,h2⟩:=hx
    refine⟨vs, .agg ((vs.drop off).take n),rfl, ?_,by simp only[b4h,hg,hs,Option.pure_def,Option.bind_eq_bind,Option.bind_some,if_true]⟩
    simp only[Rp]
    exact⟨_,rfl,(h1.drop off).take n,P4 (a1T h2 off) n⟩
  |false=>
   simp only at h
   cases x<;>simp only[c4r]at h<;>try (cases h;done)
   simp only[Rp]at hx
   obtain⟨vs,rfl,h1,h2⟩:=hx
   obtain⟨y,e1,e2⟩:=a5F h1 h
   exact⟨vs,y,rfl,e2,by simp only[b4h,hg,Option.bind_eq_bind,Option.bind_some,Bool.false_eq_true,if_false,e1]⟩
theorem d1S{s:TypeId}{x:D}{v:AV}(hx:Rp E R x v){f:Nat}{d:D}(h:c9a P s x f=some d):∃y,Rp E R d y∧b4R P s v f=some y:=by
 unfold c9a at h
 cases hf:a5G P s f with
 |none=>rw[hf]at h;cases h
 |some fl=>
  simp only[hf]at h
  obtain⟨cs,y,rfl,h1,h2⟩:=c9i hx h
  exact⟨y,h1,by simp only[b4R,hf,Option.bind_eq_bind,Option.bind_some,h2]⟩
theorem c8O{t:TypeId}{x ix:D}{v vi:AV}(hx:Rp E R x v)(hi:Rp E R ix vi){d:D}(h:c0P P t x ix=some d):∃y,Rp E R d y∧a1S P t v vi=some y:=by
 unfold c0P at h
 split at h
 ·rename_i e hu
  split at h
  ·rename_i sz hs
   cases ix<;>simp only[A0]at h<;>try (cases h;done)
   rename_i k n
   simp only[Rp]at hi
   subst hi
   cases x<;>simp only at h<;>try (cases h;done)
   ·rename_i rows z
    split at h
    ·rename_i hz
     obtain⟨rfl,h0⟩:=hz
     split at h
     ·rename_i row hrow
      cases h
      simp only[Rp]at hx
      rcases hx with ⟨rfl,_⟩|⟨o,j,cap,ex,z',rfl,f1,f2,f3,f4⟩
      ·cases hrow
      have hlt:=(List.getElem?_eq_some_iff.1 hrow).1
      have hrl:=f3 row (List.mem_of_getElem? hrow)
      rcases f4 with rfl|⟨all,k1,k2,k3⟩
      ·cases hrow
      refine⟨.ptr o (j+n.toNat*z), ?_, ?_⟩
      ·simp only[Rp]
       refine⟨o,j+n.toNat*z,all,rfl,k1, ?_⟩
       have hle:n.toNat*z+z≤rows.length*z:=by rw[←Nat.succ_mul];exact Nat.mul_le_mul_right _ hlt
       rw[hrl,a8y (L:=rows.length*z) hle]
       refine⟨?_,P4 (a1T k3 _) _⟩
       have:=((P2.1 k2).drop (n.toNat*z)).take z
       rw[b1N f3 hrow]at this
       exact this
      ·simp only[a1S,a0K,hu,hs,Option.bind_eq_bind,Option.bind_some]
       rw[if_pos (by omega)]
     ·cases h
    ·cases h
   ·rename_i rows more z
    split at h
    ·rename_i hz
     obtain⟨rfl,h0⟩:=hz
     split at h
     ·rename_i row hrow
      cases h
      simp only[Rp]at hx
      obtain⟨o,j,cap,ex,z',all,rfl,f1,f2,f3,f4,k1,k2,f7,k3⟩:=hx
      have hlt:=(List.getElem?_eq_some_iff.1 hrow).1
      have k1:=k1.resolve_right fun h=>by rw[h.1]at hlt;simp at hlt
      have hrl:=f3 row (List.mem_of_getElem? hrow)
      refine⟨.ptr o (j+n.toNat*z), ?_, ?_⟩
      ·simp only[Rp]
       refine⟨o,j+n.toNat*z,all,rfl,k1, ?_⟩
       have hle:n.toNat*z+z≤rows.length*z:=by rw[←Nat.succ_mul];exact Nat.mul_le_mul_right _ hlt
       have hle':rows.length*z≤(rows.length+more.length)*z:=Nat.mul_le_mul_right _ (by omega)
       rw[hrl]
       refine⟨?_,by rw[a8y (L:=(rows.length+more.length)*z) (by omega)];exact P4 (a1T k3 _) _⟩
       rw[a8y (L:=rows.length*z) hle]
       have:=((P2.1 k2).drop (n.toNat*z)).take z
       rw[b1N f3 hrow]at this
       exact this
      ·simp only[a1S,a0K,hu,hs,Option.bind_eq_bind,Option.bind_some]
       rw[if_pos (by omega)]
     ·cases h
    ·cases h
   ·rename_i k i len cap ex z
    split at h
    ·rename_i hz
     obtain⟨rfl,h0,h1⟩:=hz
     cases h
     simp only[Rp]at hx
     subst hx
     refine⟨_,by simp only[Rp];rfl, ?_⟩
     simp only[a1S,a0K,hu,hs,Option.bind_eq_bind,Option.bind_some]
     rw[if_pos ⟨h0,h1⟩,Nat.add_mul,Nat.add_zero]
    ·cases h
  ·cases h
 ·rename_i len e hu
  split at h
  ·rename_i sz hs
   cases ix<;>simp only[d2o]at h<;>try (cases h;done)
   rename_i k n
   simp only[Rp]at hi
   subst hi
   split at h
   ·rename_i hn
    obtain⟨o,i,rfl,h1⟩:=d1Z hx h
    refine⟨_,h1, ?_⟩
    simp only[a1S,a0K,hu,hs,Option.bind_eq_bind,Option.bind_some]
    rw[if_pos hn]
   ·cases h
  ·cases h
 ·cases h
theorem c2G{t:TypeId}{x ix:D}{v vi:AV}(hx:Rp E R x v)(hi:Rp E R ix vi){d:D}(h:c8L P t x ix=some d):∃y,Rp E R d y∧b2X P t v vi=some y:=by
 unfold c8L at h
 split at h
 ·rename_i hu
  cases ix<;>simp only[c4Q]at h<;>try (cases h;done)
  rename_i k n
  cases x<;>simp only at h<;>try (cases h;done)
  rename_i s
  simp only[Rp]at hi hx
  subst hi hx
  split at h
  ·rename_i h0
   split at h
   ·rename_i b hb
    cases h
    refine⟨_,by simp only[Rp];rfl, ?_⟩
    simp only[b2X,a0K,hu,Option.bind_eq_bind,Option.bind_some,hb]
    rw[if_pos h0]
    rfl
   ·cases h
  ·cases h
 ·rename_i len e hu
  split at h
  ·rename_i sz ag hs hag
   cases ix<;>simp only[d1q]at h<;>try (cases h;done)
   rename_i kk n
   simp only[Rp]at hi
   subst hi
   split at h
   ·rename_i hn
    have hp:c7c P e (n.toNat*sz) x=some d:=by
     unfold c7c
     rw[hag]
     cases ag with
     |true=>simp only[hs];exact h
     |false=>exact h
    obtain⟨cs,y,rfl,h1,h2⟩:=c9i hx hp
    refine⟨y,h1, ?_⟩
    simp only[b2X,a0K,hu,hs,Option.bind_eq_bind,Option.bind_some]
    rw[if_pos hn]
    exact h2
   ·cases h
  ·cases h
 ·cases h
theorem d4C{t:TypeId}{x:D}{v:AV}(hx:Rp E R x v){d:D}(h:d4V P t x=some d):∃y,Rp E R d y∧∀H,d2i P H t v=some y:=by
 unfold d4V at h
 have go:∀ {n:Nat},b7A P t v=some n→d= .int .i64 n→∃y,Rp E R d y∧∀H,d2i P H t v=some y:=by
  intro n e1 e2
  subst e2
  exact⟨.int .i64 n,by simp only[Rp],fun H=>by simp only[d2i,e1]⟩
 split at h
 ·rename_i hu
  cases x<;>simp only[a3P]at h<;>try (cases h;done)
  cases h
  simp only[Rp]at hx
  subst hx
  exact go (by simp only[b7A,hu]) rfl
 ·rename_i e hu
  cases x<;>simp only[p7]at h<;>try (cases h;done)
  all_goals
   cases h
   simp only[Rp]at hx
  ·subst hx;exact go (n:=0) (by simp only[b7A,hu]) rfl
  ·rcases hx with ⟨rfl,rfl⟩|⟨o,j,cap,ex,z',rfl,_⟩
   ·exact go (n:=0) (by simp only[b7A,hu]) rfl
   ·exact go (by simp only[b7A,hu]) rfl
  ·obtain⟨o,j,cap,ex,z',all,rfl,_⟩:=hx;exact go (by simp only[b7A,hu]) rfl
  ·subst hx;exact go (by simp only[b7A,hu]) rfl
 ·rename_i n e hu
  cases h
  exact go (by simp only[b7A,hu]) rfl
 ·cases h
theorem d4E{t:TypeId}{x:D}{v:AV}(hx:Rp E R x v){d:D}(h:d4X P t x=some d):∃y,Rp E R d y∧((c4y P t v).map fun(n:Nat)=>AV.int .i64 n)=some y:=by
 unfold d4X at h
 split at h
 ·rename_i e hu
  cases x<;>simp only[c6u]at h<;>try (cases h;done)
  ·cases h
   simp only[Rp]at hx
   subst hx
   exact⟨.int .i64 (0:Nat),by simp only[Rp];rfl,by simp only[c4y,hu];rfl⟩
  ·rename_i k i len cap ex z
   cases ex<;>simp only at h<;>try (cases h;done)
   cases h
   simp only[Rp]at hx
   subst hx
   exact⟨.int .i64 cap,by simp only[Rp],by simp only[c4y,hu];rfl⟩
 ·rename_i n e hu
  cases h
  exact⟨.int .i64 n,by simp only[Rp],by simp only[c4y,hu];rfl⟩
 ·cases h
theorem c9x{m:Bool}:∀ {l:List D} {vs:List AV} {x:D} {v:AV} {d:D},Rp E R x v→A9 E R l vs→l.foldlM (mmD m) x=some d→∃y,Rp E R d y∧vs.foldlM (fun x y=>match x,y with
  | .int k a, .int _ b=>some (AV.int k (if m then(if b>a then b else a) else(if b<a then b else a)))
  |_,_=>none) v=some y
 | [],vs,x,v,d,hx,hl,h=>by
  simp only[A9]at hl
  subst hl
  cases h
  exact⟨v,hx,rfl⟩
 |a::l,vs,x,v,d,hx,hl,h=>by
  simp only[A9]at hl
  obtain⟨w,ws,rfl,h1,h2⟩:=hl
  simp only[List.foldlM_cons,Option.bind_eq_bind]at h ⊢
  cases x<;>simp only[mmD,Option.bind_none]at h<;>try (cases h;done)
  cases a<;>simp only[Option.bind_none]at h<;>try (cases h;done)
  simp only[Option.bind_some]at h
  simp only[Rp]at hx h1
  subst hx h1
  exact c9x (by simp only[Rp]) h2 h
theorem c3S{m:Bool}{l:List D}{vs:List AV}(hl:A9 E R l vs){d:D}(h:b6h m l=some d):∃y,Rp E R d y∧a4n m vs=some y:=by
 cases l with
 |nil=>cases h
 |cons x l=>
  simp only[A9]at hl
  obtain⟨v,ws,rfl,h1,h2⟩:=hl
  exact c9x h1 h2 h
theorem d1D{t:TypeId}{x:D}{v:AV}(hx:Rp E R x v){d:D}(h:c8n P t x=some d):∃y,Rp E R d y∧c4z P t v=some y:=by
 unfold c8n at h
 unfold c4z
 split at h
 ·cases h
 ·rename_i u hn hu
  cases h
  rw[hu]
  refine⟨.ifc t v,by simp only[Rp];exact⟨v,rfl,hx⟩, ?_⟩
  split
  ·rename_i e h1;cases h1;exact(hn _ rfl).elim
  ·rfl
  ·rename_i h1;cases h1
 ·cases h
theorem d0v{x:D}{v:AV}(hx:Rp E R x v){t:TypeId}{ok:Bool}{d:D}(h:c4t P x t ok=some d):∃y,Rp E R d y∧b0e P v t ok=some y:=by
 unfold c4t at h
 split at h
 ·cases h
 ·rename_i u hn hu
  split at h
  ·rename_i z hz
   have fails:ok=true→d= .tup [d0N z, .bool false]→∃y,Rp E R d y∧(if ok=true then(P6 P t).map fun z=>AV.tup [z, .bool false]else none)=some y:=by
    intro hok hd
    subst hd
    refine⟨.tup [z, .bool false], ?_,by rw[if_pos hok,hz];rfl⟩
    simp only[Rp]
    exact⟨_,rfl,B7 c5H (B7 (by simp only[Rp]) G5)⟩
   unfold b0e
   rw[hu]
   split
   ·rename_i e h1;cases h1;exact(hn _ rfl).elim
   ·cases x<;>simp only[asD]at h<;>try (cases h;done)
    ·split at h
     ·rename_i hok
      cases h
      simp only[Rp]at hx
      subst hx
      exact fails hok rfl
     ·cases h
    ·rename_i t' d'
     simp only[Rp]at hx
     obtain⟨v',rfl,hv⟩:=hx
     split at h
     ·rename_i ht
      cases h
      simp only[if_pos ht]
      cases ok with
      |true=>
       refine⟨.tup [v', .bool true], ?_,rfl⟩
       simp only[if_true,Rp]
       exact⟨_,rfl,B7 hv (B7 (by simp only[Rp]) G5)⟩
      |false=>exact⟨v',by simpa using hv,rfl⟩
     ·rename_i ht
      split at h
      ·rename_i hok
       cases h
       simp only[if_neg ht]
       exact fails hok rfl
      ·cases h
   ·rename_i h1;cases h1
  ·cases h
 ·cases h
theorem a4x:∀ {ds:List D} {vs:List AV} {cs:List D} {ws:List AV} {i:Nat},A9 E R cs ws→A9 E R ds vs→A9 E R (o8 cs i ds) (E4 ws i vs)
 | [],vs,cs,ws,i,h,hd=>by simp only[A9]at hd;subst hd;exact h
 |d::ds,vs,cs,ws,i,h,hd=>by
  simp only[A9]at hd
  obtain⟨v,vs,rfl,h1,h2⟩:=hd
  show A9 E R (o8 (cs.set i d) (i+1) ds) (E4 (ws.set i v) (i+1) vs)
  exact a4x (h.set i h1) h2
theorem a0w:∀(ds cs:List D) (i:Nat),(o8 cs i ds).length=cs.length
 | [],cs,i=>rfl
 |d::ds,cs,i=>by rw[o8,a0w ds,List.length_set]
theorem a1j:∀ {vs ws:List AV} {i:Nat},ws.all w9=true→vs.all w9=true→(E4 ws i vs).all w9=true
 | [],ws,i,h,_=>h
 |v::vs,ws,i,h,hv=>by
  simp only[List.all_cons,Bool.and_eq_true]at hv
  show(E4 (ws.set i v) (i+1) vs).all w9=true
  refine a1j ?_ hv.2
  refine List.all_eq_true.2 fun x hx=> ?_
  rcases List.mem_or_eq_of_mem_set hx with hx|rfl
  ·exact List.all_eq_true.1 h x hx
  ·exact hv.1
def RpP(E:m7)(R:Fz):List (Nat×D)→List (Nat×AV)→Prop
 | [],l=>l=[]
 |(i,d)::ds,l=>∃v vs,l=(i,v)::vs∧Rp E R d v∧RpP E R ds vs
theorem c2j{T:List D}{avs:List AV}(h:A9 E R T avs):∀l:List (Nat×Operand),RpP E R (l.map fun p=>(p.1,B5 T p.2)) (l.map fun p=>(p.1,o4 avs p.2))
 | []=>rfl
 |(i,x)::l=>⟨_,_,rfl,A4 h x,c2j h l⟩
theorem c9Z{place:Nat→Option (Nat×Nat)}:∀ {parts:List (Nat×D)} {ps:List (Nat×AV)} {cs:List D} {ws:List AV} {l:List (Nat×Nat×D)} {r:List D},RpP E R parts ps→A9 E R cs ws→ws.all w9=true→b3s place parts=some l→w6 cs l=some r→
  ∃us,A9 E R r us∧us.all w9=true∧us.length=ws.length∧a8I place ws ps=some us
 | [],ps,cs,ws,l,r,hp,hc,hs,h1,h2=>by
  have hp':ps=[]:=hp
  subst hp'
  cases h1
  cases h2
  exact⟨ws,hc,hs,rfl,rfl⟩
 |(i,d)::parts,ps,cs,ws,l,r,hp,hc,hs,h1,h2=>by
  obtain⟨v,vs,rfl,hd,hp⟩:=hp
  simp only[b3s]at h1
  split at h1
  ·rename_i off size hpl
   split at h1
   ·rename_i l' hl'
    cases h1
    simp only[w6]at h2
    split at h2
    ·rename_i ds hds
     split at h2
     ·rename_i hsz
      obtain⟨g1,g2⟩:=b2n hd hds
      obtain⟨us,k1,k2,k3,k4⟩:=c9Z hp (a4x (i:=off) hc g1) (a1j hs g2) hl' h2
      refine⟨us,k1,k2,by rw[k3,b1w], ?_⟩
      simp only[a8I,hpl]
      rw[if_pos,k4]
      rw[g1.length, ←hc.length]at*
      exact⟨hsz.1,by omega⟩
     ·cases h2
    ·cases h2
   ·cases h1
  ·cases h1
theorem d4Z{r:Option (List D)}{d:D}(h:E6 r=some d):∃cs,r=some cs∧d= .agg cs:=by
 cases r with
 |none=>cases h
 |some cs=>cases h;exact⟨cs,rfl,rfl⟩
theorem d2L{t:TypeId}{parts:List (Nat×D)}{ps:List (Nat×AV)}(hp:RpP E R parts ps){d:D}(h:c8Z P t parts=some d):∃y,Rp E R d y∧b2Y P t ps=some y:=by
 unfold c8Z at h
 split at h
 ·rename_i z hz
  split at h
  ·rename_i hsc
   have fin:∀ {place:Nat→Option (Nat×Nat)} {l:List (Nat×Nat×D)},b3s place parts=some l→E6 (w6 (z.map a1n) l)=some d→∃y,Rp E R d y∧(a8I place (AV.agg z).cells ps).map AV.agg=some y:=by
    intro place l h1 h2
    obtain⟨cs,e1,rfl⟩:=d4Z h2
    obtain⟨us,k1,k2,k3,k4⟩:=c9Z hp (b7H z) hsc h1 e1
    refine⟨.agg us,by simp only[Rp];exact⟨us,rfl,k1,k2⟩, ?_⟩
    show(a8I place z ps).map AV.agg=_
    rw[k4];rfl
   split at h
   ·rename_i fields hu
    split at h
    ·rename_i places hpl
     split at h
     ·rename_i l hl
      obtain⟨y,e1,e2⟩:=fin hl h
      refine⟨y,e1, ?_⟩
      simp only[b2Y,hz,hu,hpl,Option.bind_eq_bind,Option.bind_some]
      exact e2
     ·cases h
    ·cases h
   ·rename_i n e hu
    split at h
    ·rename_i size hs
     split at h
     ·rename_i l hl
      obtain⟨y,e1,e2⟩:=fin hl h
      refine⟨y,e1, ?_⟩
      simp only[b2Y,hz,hu,hs,Option.bind_eq_bind,Option.bind_some]
      exact e2
     ·cases h
    ·cases h
   ·cases h
  ·cases h
 ·cases h
theorem c4b(hC:D6 E R S H0){sz:Nat}{x:D}{v:AV}(hx:Rp E R x v){rows:List (List D)}(h:L7 S sz x=some rows):
  (∀row∈rows,row.length=sz)∧a4a v=some rows.length∧∃cs,A9 E R rows.flatten cs∧cs.all w9=true∧∀H,Agr R S (b6D x) H→a0L E H sz rows.length v=some cs∧(∀o i len cap ex z,v= .slc o i len cap ex z→K8 E H o i (len*sz)=some cs):=by
 cases x<;>simp only[L7]at h<;>try (cases h;done)
 ·cases h
  simp only[Rp]at hx
  subst hx
  exact⟨fun row hr=>(by cases hr),rfl,[],G5,rfl,fun H _=>⟨rfl,fun _ _ _ _ _ _ e=>(by cases e)⟩⟩
 ·rename_i rows' z
  split at h
  ·rename_i hz
   cases h
   subst hz
   simp only[Rp]at hx
   rcases hx with ⟨rfl,rfl⟩|⟨o,j,cap,ex,z',rfl,f1,f2,f3,f4⟩
   ·exact⟨fun row hr=>(by cases hr),rfl,[],G5,rfl,fun H _=>⟨rfl,fun _ _ _ _ _ _ e=>(by cases e)⟩⟩
   refine⟨f3,rfl, ?_⟩
   rcases f4 with rfl|⟨all,k1,k2,k3⟩
   ·refine⟨[],G5,rfl,fun H _=>⟨?_,fun _ _ _ _ _ _ e=> ?_⟩⟩
    ·simp only[a0L,K8,List.length_nil,Nat.zero_mul,if_true]
    ·cases e;simp only[K8,List.length_nil,Nat.zero_mul,if_true]
   ·have key:∀H,Agr R S (b6D (.lst rows z)) H→K8 E H o j (rows.length*z)=some ((all.drop j).take (rows.length*z)):=by
     intro H hA
     have hc:=b7Y k1 hA
     unfold K8
     split
     ·rename_i e0;rw[e0,List.take_zero]
     ·rename_i e0
      have hl:=(P2.1 k2).length
      rw[C5 f3,List.length_take,List.length_drop]at hl
      simp only[F5,hc]
      rw[if_pos (by omega)]
    exact⟨_,P2.1 k2,k3,fun H hA=>⟨key H hA,fun _ _ _ _ _ _ e=>by cases e;exact key H hA⟩⟩
  ·cases h
 ·rename_i rows' more z
  split at h
  ·rename_i hz
   cases h
   subst hz
   simp only[Rp]at hx
   obtain⟨o,j,cap,ex,z',all,rfl,f1,f2,f3,f4,k1,k2,f7,k3⟩:=hx
   refine⟨f3,rfl, ?_⟩
   have hle':rows.length*z≤(rows.length+more.length)*z:=Nat.mul_le_mul_right _ (by omega)
   have k3':((all.drop j).take (rows.length*z)).all w9=true:=by
    have:=P4 k3 (rows.length*z)
    rw[List.take_take,Nat.min_eq_left hle']at this
    exact this
   have key:∀H,Agr R S (b6D (.ext rows more z)) H→K8 E H o j (rows.length*z)=some ((all.drop j).take (rows.length*z)):=by
    intro H hA
    unfold K8
    split
    ·rename_i e0;rw[e0,List.take_zero]
    ·rename_i e0
     have hc:=b7Y (k1.resolve_right fun h=>e0 (by rw[h.1];simp)) hA
     have hl:=(P2.1 k2).length
     rw[C5 f3,List.length_take,List.length_drop]at hl
     simp only[F5,hc]
     rw[if_pos (by omega)]
   exact⟨_,P2.1 k2,k3',fun H hA=>⟨key H hA,fun _ _ _ _ _ _ e=>by cases e;exact key H hA⟩⟩
  ·cases h
 ·rename_i k i len cap ex z
  cases hk:S k with
  |none=>rw[hk]at h;cases h
  |some o=>
   simp only[hk]at h
   split at h
   ·rename_i hz
    obtain⟨rfl,hsz,hlen⟩:=hz
    cases h
    simp only[Rp]at hx
    subst hx
    obtain⟨h1,⟨pre,h2⟩,h3,h4,h5⟩:=hC.own k o hk
    rw[hsz]at h4
    have hd:∀row∈o.rows.drop i,row.length=z:=fun row hr=>h4 row (List.mem_of_mem_drop hr)
    have hl:((o.rows.drop i).take len).length=len:=by rw[List.length_take,List.length_drop];omega
    have hll:=h5.length
    rw[C5 h4]at hll
    have hle:i*z+len*z≤o.acs.length:=by rw[hll, ←Nat.add_mul];exact Nat.mul_le_mul_right _ hlen
    refine⟨fun row hr=>hd row (List.mem_of_mem_take hr),by rw[hl];rfl,(o.acs.drop (i*z)).take (len*z), ?_,P4 (a1T h3 _) _,fun H hA=> ?_⟩
    ·rw[←a3N hd, ←a5L h4]
     exact(h5.drop _).take _
    ·have key:K8 E H (.new k) (i*z) (len*z)=some ((o.acs.drop (i*z)).take (len*z)):=by
      obtain⟨w,p,g⟩:=hA.st k o rfl hk
      exact c6R E g _ _ hle
     refine⟨by rw[hl];exact key,fun _ _ _ _ _ _ e=>by cases e;exact key⟩
   ·cases h
theorem d0d:∀ {rows:List (List D)} {bs:List UInt8} {cs:List AV},(∀row∈rows,row.length=1)→A9 E R rows.flatten cs→rows.mapM c0V=some bs→cs.mapM c5C=some bs
 | [],bs,cs,_,h,e=>by
  simp only[List.flatten_nil,A9]at h
  subst h
  exact e
 |row::rows,bs,cs,hl,h,e=>by
  rw[List.mapM_cons]at e
  cases hb:c0V row with
  |none=>rw[hb]at e;cases e
  |some b=>
   rw[hb]at e
   simp only[Option.bind_eq_bind,Option.bind_some]at e
   cases hm:rows.mapM c0V with
   |none=>rw[hm]at e;cases e
   |some l=>
    rw[hm]at e
    cases e
    unfold c0V at hb
    split at hb
    ·rename_i n
     cases hb
     simp only[List.flatten_cons,List.cons_append,List.nil_append,A9]at h
     obtain⟨v,vs,rfl,h1,h2⟩:=h
     simp only[Rp]at h1
     subst h1
     have ih:=d0d (fun row hr=>hl row (List.mem_cons_of_mem _ hr)) h2 hm
     rw[List.mapM_cons,ih]
     rfl
    ·cases hb
theorem d3x(hC:D6 E R S H0){s t:TypeId}{x:D}{v:AV}(hx:Rp E R x v){d:D}(h:d1J P S s t x=some d):∃y,Rp E R d y∧∀H,Agr R S (b6D x) H→(O6 P E H s t v).map (·.1)=some y:=by
 unfold d1J at h
 split at h
 ·rename_i hu1 hu2
  cases x<;>simp only[I8]at h<;>try (cases h;done)
  cases h
  simp only[Rp]at hx
  subst hx
  rename_i k' n
  exact⟨.int _ (IntKind.wrap _ n),by simp only[Rp];rfl,fun H _=>by simp only[O6,hu1,hu2];rfl⟩
 ·rename_i hu1 hu2
  cases x<;>simp only[c4C]at h<;>try (cases h;done)
  cases h
  simp only[Rp]at hx
  subst hx
  rename_i s
  exact⟨.str s,by simp only[Rp],fun H _=>by simp only[O6,hu1,hu2];rfl⟩
 ·rename_i e hu1 hu2
  split at h
  ·rename_i hue
   unfold b0x at h
   split at h
   ·rename_i rows hrows
    obtain⟨g1,g2,cs,g3,g4,g5⟩:=c4b hC hx hrows
    cases hm:rows.mapM c0V with
    |none=>rw[hm]at h;cases h
    |some bs=>
     rw[hm]at h
     cases h
     have hb:=d0d g1 g3 hm
     refine⟨.str bs,by simp only[Rp],fun H hA=> ?_⟩
     obtain⟨k1,k2⟩:=g5 H hA
     cases v<;>simp only[a4a,Option.some.injEq]at g2<;>try (cases g2;done)
     ·
      cases x<;>simp only[L7]at hrows<;>try (cases hrows;done)
      ·simp only[Rp]at hx;cases hx
      ·simp only[Rp]at hx;rcases hx with ⟨_,hx⟩|⟨_,_,_,_,_,hx,_⟩<;>cases hx
      ·simp only[Rp]at hx;obtain⟨_,_,_,_,_,_,hx,_⟩:=hx;cases hx
      ·simp only[Rp]at hx;cases hx
     ·have hr:rows=[]:=List.length_eq_zero_iff.1 g2.symm
      subst hr
      cases hm
      simp only[O6,hu1,hu2,hue]
      rfl
     ·have:=k2 _ _ _ _ _ _ rfl
      rw[Nat.mul_one]at this
      simp only[O6,hu1,hu2,hue,this,hb]
      rfl
   ·cases h
  ·cases h
 ·cases h
theorem c5e{T:List D}{avs:List AV}(h:A9 E R T avs):∀x:Option Operand,RpO E R (x.map (B5 T)) (x.map (o4 avs))
 |none=>trivial
 |some x=>A4 h x
theorem d3K{T:List D}{avs:List AV}(hT:A9 E R T avs)(hC:D6 E R S H0){o:Oper}{d:D}(h:d4q P T S o=some d):
  ∃v,Rp E R d v∧∀H,Agr R S (b7S T o) H→opV P E avs H o=some v:=by
 obtain⟨dst,op,type,pos,after,guard⟩:=o
 have plain:∀ {r:Option AV},(∃v,Rp E R d v∧r=some v)→∃v,Rp E R d v∧∀H,Agr R S (b7S T ⟨dst,op,type,pos,after,guard⟩) H→r=some v:=fun⟨v,a,b⟩=>⟨v,a,fun _ _=>b⟩
 cases op<;>simp only[d4q]at h<;>try (cases h;done)
 case move x=>cases h;exact⟨_,A4 hT x,fun _ _=>rfl⟩
 case assign x=>cases h;exact⟨_,A4 hT x,fun _ _=>rfl⟩
 case pick c a b=>exact plain (d3b (A4 hT c) (A4 hT a) (A4 hT b) h)
 case build t parts=>exact plain (d2L (c2j hT _) h)
 case load t a=>
  obtain⟨v,h1,h2⟩:=c9U hC (A4 hT a) h
  exact⟨v,h1,fun H hA=>h2 H hA⟩
 case nilCheck x=>
  obtain⟨h1,h2⟩:=d4B (A4 hT x) h
  exact⟨_,h1,fun _ _=>h2⟩
 case binOp op t x y yt=>exact plain (d4O (A4 hT x) (A4 hT y) h)
 case unOp op t x=>exact plain (d5H (A4 hT x) h)
 case convert s t x=>
  obtain⟨v,h1,h2⟩:=d3x hC (A4 hT x) h
  exact⟨v,h1,fun H hA=>h2 H hA⟩
 case makeInterface t x=>exact plain (d1D (A4 hT x) h)
 case makeFunc fn a b=>
  cases h
  refine⟨_, ?_,fun _ _=>rfl⟩
  simp only[Rp]
  exact⟨_,_,rfl,a4E hT _,a4E hT _⟩
 case slice t x lo hi mx=>
  obtain⟨v,h1,h2⟩:=d1H (A4 hT x) (c5e hT lo) (c5e hT hi) (c5e hT mx) h
  exact⟨v,h1,fun H _=>h2 H⟩
 case fieldAddr s x f=>exact plain (c8V (A4 hT x) h)
 case field s x f=>exact plain (d1S (A4 hT x) h)
 case indexAddr t x ix=>exact plain (c8O (A4 hT x) (A4 hT ix) h)
 case index t x ix=>exact plain (c2G (A4 hT x) (A4 hT ix) h)
 case typeAssert x a t ok=>exact plain (d0v (A4 hT x) h)
 case extract t ix=>exact plain (c8i (A4 hT t) h)
 case call c=>
  cases hc:c.callee with
  |value f=>rw[hc]at h;cases h
  |invoke r m=>rw[hc]at h;cases h
  |builtin b=>
   simp only[hc]at h
   have ha:=a4E hT c.args.toList
   simp only[opV,hc]
   generalize c.args.toList.map (B5 T)=ds at h ha
   generalize c.args.toList.map (o4 avs)=vs at ha
   generalize c.argTypes.toList=ts at h
   cases b<;>(try simp only at h)<;>try (cases h;done)
   case len=>
    rcases ds with _|⟨x,_|⟨y,ds⟩⟩<;>(try simp only at h)<;>try (cases h;done)
    rcases ts with _|⟨t,_|⟨u,ts⟩⟩<;>(try simp only at h)<;>try (cases h;done)
    simp only[A9]at ha
    obtain⟨v,vs,rfl,h1,rfl⟩:=ha
    obtain⟨y,g1,g2⟩:=d4C h1 h
    exact⟨y,g1,fun H _=>g2 H⟩
   case cap=>
    rcases ds with _|⟨x,_|⟨y,ds⟩⟩<;>(try simp only at h)<;>try (cases h;done)
    rcases ts with _|⟨t,_|⟨u,ts⟩⟩<;>(try simp only at h)<;>try (cases h;done)
    simp only[A9]at ha
    obtain⟨v,vs,rfl,h1,rfl⟩:=ha
    obtain⟨y,g1,g2⟩:=d4E h1 h
    exact⟨y,g1,fun H _=>g2⟩
   case min=>
    obtain⟨y,g1,g2⟩:=c3S ha h
    exact⟨y,g1,fun H _=>g2⟩
   case max=>
    obtain⟨y,g1,g2⟩:=c3S ha h
    exact⟨y,g1,fun H _=>g2⟩
end
end Go.Am
end
